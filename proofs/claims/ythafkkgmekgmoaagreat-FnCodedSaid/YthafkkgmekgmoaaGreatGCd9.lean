/- Contracts of the functions of the program and of the reference, each proved by a walk through its code. -/
import Derived.WalkKit
import Derived.WalkSpells
import Derived.WalkLawsBesides
import Derived.Deep.Draws
import Derived.Lib.Hide
import Derived.Maps.AppendAt
import Derived.OwnWalk
import Derived.Deep.MidRow
import Derived.Laws.ResultCell
import Derived.Deep.Upon
import Derived.Great.FillDense
import Derived.Laws.Tables
import Derived.Laws.BytesArg
import Derived.Laws.MakeOwn
import Derived.Great.BuildSlice
import Derived.ArgAppend
import Derived.Deep.AppendSrc
import Derived.Test.YthafkkgmekgmoaaGreatProg
import Derived.KernelRfl
import Derived.Orders
import Derived.Laws.IdiomStrings
import Derived.Lib.AppendZerosOnto
import Derived.ProofKit
import Derived.OpenShut
import Derived.Lib.SliceRun
import Derived.Laws.StructEq
import Derived.ChangeKeysEq
import Derived.Sort.Grow
import Derived.Laws.RangeString
import Derived.Below
import Derived.Laws.Small
import Derived.MapKept
import Derived.WideMake
import Derived.Laws.IdiomCopy
import Derived.Shelf.Bits.Mul64
import Derived.Test.YthafkkgmekgmoaaGreatRows
import Derived.Test.YthafkkgmekgmoaaGreatGCd8
set_option linter.all false
set_option maxRecDepth 20000
namespace Go.Proofs.YthafkkgmekgmoaaGreat
open Go.RowKit
def swapE (E : List (Nat × Nat)) : List (Nat × Nat) := E.map fun e => (e.2, e.1)
theorem swapE_mem {E : List (Nat × Nat)} {f t : Nat} : (f, t) ∈ swapE E ↔ (t, f) ∈ E := by
 unfold swapE
 rw [List.mem_map]
 constructor
 ·rintro ⟨⟨a, b⟩, h, e⟩
  obtain ⟨rfl, rfl⟩ := Prod.mk.inj e
  exact h
 ·intro h; exact ⟨(t, f), h, rfl⟩
theorem swapE_len (E : List (Nat × Nat)) : (swapE E).length = E.length := List.length_map _
abbrev canAt (c : List Bool) (v : Nat) : Bool := c.getD v false
theorem canAt_set {c : List Bool} {v u : Nat} : canAt (c.set v true) u = true ↔ canAt c u = true ∨ (u = v ∧ v < c.length) := by
 unfold canAt
 rw [List.getD_eq_getElem?_getD, List.getD_eq_getElem?_getD, List.getElem?_set]
 by_cases e : v = u
 ·subst e
  rw [if_pos rfl]
  by_cases h : v < c.length
  ·rw [if_pos h]; simp [h]
  ·rw [if_neg h, List.getElem?_eq_none (by omega)]; simp [h]
 ·rw [if_neg e]
  constructor
  ·exact .inl
  ·rintro (g | ⟨rfl, _⟩)
   ·exact g
   ·exact absurd rfl e
structure BackI (E : List (Nat × Nat)) (n s : Nat) (o : List Int) (c : List Bool) (r j : Nat) : Prop where
 len : c.length = n
 snd : ∀ v, canAt c v = true → 0 ≤ oa o v
 cmp : ∀ v, 0 ≤ oa o v → oa o v ≤ r → canAt c v = true
 part : ∀ f t, (f, t) ∈ E.take j → 0 ≤ oa o t → oa o t ≤ r → canAt c f = true
theorem BackI.start {E : List (Nat × Nat)} {n s : Nat} {o : List Int} (hs : s < n) (h : DistOf (swapE E) n s o) : BackI E n s o ((List.replicate n false).set s true) 0 0 := by
 refine ⟨by simp, fun v hv => ?_, fun v h0 h1 => ?_, fun f t hm => by simp at hm⟩
 ·rcases canAt_set.1 hv with g | ⟨rfl, _⟩
  ·unfold canAt at g; rw [List.getD_eq_getElem?_getD, List.getElem?_replicate] at g; split at g <;> cases g
  ·rw [h.st]; exact Int.le_refl _
 ·have hw := h.wk v 0 (by omega)
  cases hw
  exact canAt_set.2 (.inr ⟨rfl, by simpa using hs⟩)
theorem BackI.no {E : List (Nat × Nat)} {n s : Nat} {o : List Int} {c : List Bool} {r j : Nat} (h : BackI E n s o c r j) (hj : j < E.length) (hb : canAt c E[j].2 = false) : BackI E n s o c r (j + 1) := by
 refine ⟨h.len, h.snd, h.cmp, fun f t hm h0 h1 => ?_⟩
 rcases mem_takeE hj hm with g | g
 ·exact h.part f t g h0 h1
 ·rw [← g] at hb
  have := h.cmp t h0 h1
  rw [hb] at this; cases this
theorem BackI.yes {E : List (Nat × Nat)} {n s : Nat} {o : List Int} {c : List Bool} {r j : Nat} (hd : DistOf (swapE E) n s o) (h : BackI E n s o c r j) (hj : j < E.length) (hf : E[j].1 < n) (hb : canAt c E[j].2 = true) : BackI E n s o (c.set E[j].1 true) r (j + 1) := by
 refine ⟨by rw [List.length_set]; exact h.len, fun v hv => ?_, fun v h0 h1 => canAt_set.2 (.inl (h.cmp v h0 h1)), fun f t hm h0 h1 => ?_⟩
 ·rcases canAt_set.1 hv with g | ⟨rfl, _⟩
  ·exact h.snd v g
  ·exact (hd.ed E[j].2 E[j].1 (swapE_mem.2 (List.getElem_mem hj)) (h.snd _ hb)).1
 ·rcases mem_takeE hj hm with g | g
  ·exact canAt_set.2 (.inl (h.part f t g h0 h1))
  ·rw [← g]; exact canAt_set.2 (.inr ⟨rfl, by rw [h.len, g]; exact hf⟩)
theorem BackI.next {E : List (Nat × Nat)} {n s : Nat} {o : List Int} {c : List Bool} {r j : Nat} (hd : DistOf (swapE E) n s o) (h : BackI E n s o c r j) (hj : j = E.length) : BackI E n s o c (r + 1) 0 := by
 refine ⟨h.len, h.snd, fun v h0 h1 => ?_, fun f t hm => by simp at hm⟩
 rcases Int.lt_or_le (oa o v) ((r : Int) + 1) with g | g
 ·exact h.cmp v h0 (by omega)
 ·have hv : oa o v = ((r + 1 : Nat) : Int) := by omega
  have hw := hd.wk v (r + 1) hv
  cases hw with
  | @step _ u _ w e =>
   have h2 := hd.walk w
   have h3 := hd.ed u v e h2.1
   exact h.part v u (by rw [hj, List.take_length]; exact swapE_mem.1 e) h2.1 (by omega)
theorem BackI.all {E : List (Nat × Nat)} {n s : Nat} {o : List Int} {c : List Bool} (h : BackI E n s o c n 0) (hle : ∀ v, oa o v ≤ n) (v : Nat) : canAt c v = decide (0 ≤ oa o v) := by
 rw [Bool.eq_iff_iff, decide_eq_true_eq]
 exact ⟨h.snd v, fun g => h.cmp v g (hle v)⟩
def cutM (M a : Int) : Int := if a < M then a else M
def addC (M : Int) (now : List Int) : List Mv → List Int → List Int
 | [], nx => nx
 | v :: l, nx => addC M now l (nx.set v.to_.toNat (cutM M (nx.getD v.to_.toNat 0 + now.getD v.from_.toNat 0)))
structure CapI (a b : List Int) : Prop where
 len : a.length = b.length
 lo : ∀ v, 0 ≤ a.getD v 0 ∧ a.getD v 0 ≤ 2000000
 cap : ∀ v, b.getD v 0 = cutM 1000001 (a.getD v 0)
theorem iget_set {l : List Int} {i v : Nat} {x : Int} : (l.set i x).getD v 0 = if v = i ∧ i < l.length then x else l.getD v 0 := by
 rw [List.getD_eq_getElem?_getD, List.getD_eq_getElem?_getD, List.getElem?_set]
 by_cases e : i = v
 ·subst e
  by_cases h : i < l.length
  ·rw [if_pos rfl, if_pos h, if_pos ⟨rfl, h⟩]; rfl
  ·rw [if_pos rfl, if_neg h, if_neg (fun q => h q.2), List.getElem?_eq_none (by omega)]
 ·rw [if_neg e, if_neg (fun q => e q.1.symm)]
theorem iget_rep (n v : Nat) : (List.replicate n (0 : Int)).getD v 0 = 0 := by
 rw [List.getD_eq_getElem?_getD, List.getElem?_replicate]; split <;> rfl
theorem CapI.zero (n : Nat) : CapI (List.replicate n 0) (List.replicate n 0) := ⟨rfl, fun v => by rw [iget_rep]; decide, fun v => by rw [iget_rep]; decide⟩
theorem CapI.add {now now' : List Int} (hn : CapI now now') : ∀ (L : List Mv) {a b : List Int}, CapI a b → CapI (addC 2000000 now L a) (addC 1000001 now' L b)
 | [], a, b, h => h
 | v :: L, a, b, h => by
  rw [addC, addC]
  refine CapI.add hn L ⟨by rw [List.length_set, List.length_set]; exact h.len, fun u => ?_, fun u => ?_⟩
  ·rw [iget_set]
   have h1 := h.lo v.to_.toNat
   have h2 := hn.lo v.from_.toNat
   have h3 := h.lo u
   unfold cutM
   split
   ·split <;> omega
   ·exact h3
  ·rw [iget_set, iget_set, ← h.len]
   have h1 := h.lo v.to_.toNat
   have h2 := hn.lo v.from_.toNat
   have h3 := h.cap v.to_.toNat
   have h4 := hn.cap v.from_.toNat
   split
   ·rw [h3, h4]
    unfold cutM
    repeat' split
    all_goals omega
   ·exact h.cap u
abbrev boolL (c : List Bool) : List (List DV) := c.map fun b => [dT b]
theorem boolL_len (c : List Bool) : (boolL c).length = c.length := List.length_map _
theorem boolL_get {c : List Bool} {v : Nat} (h : v < c.length) : (boolL c)[v]? = some [dT (canAt c v)] := by
 rw [List.getElem?_map, List.getElem?_eq_getElem h]
 unfold canAt
 rw [List.getD_eq_getElem?_getD, List.getElem?_eq_getElem h]; rfl
theorem boolL_set (c : List Bool) (v : Nat) : boolL (c.set v true) = (boolL c).set v [dT true] := by unfold boolL; rw [List.map_set]
theorem boolL_rep (n : Nat) : List.replicate n (([ZK.bool] : List ZK).map fun z => DV.val z.val) = boolL (List.replicate n false) := by unfold boolL; rw [List.map_replicate]; rfl
def allU (o : List Int) (i : Nat) : Bool := (List.range i).all fun v => decide (0 ≤ oa o v)
def clB (s : Stg) (x : Ex) (k : Nat) : Bool := (valF (k : Int) (arcsOf s x) x.marks.length).isNone
def clL (s : Stg) (x : Ex) (n : Nat) : List Int := nI ((List.range n).filter (clB s x))
theorem clL_succ (s : Stg) (x : Ex) (n : Nat) : clL s x (n + 1) = clL s x n ++ (if clB s x n = true then [(n : Int)] else []) := by
 unfold clL nI
 rw [List.range_succ, List.filter_append, List.map_append]
 congr 1
 cases h : clB s x n <;> simp [h]
theorem clL_len (s : Stg) (x : Ex) (n : Nat) : (clL s x n).length ≤ n := by
 unfold clL nI
 rw [List.length_map]
 have := List.length_filter_le (clB s x) (List.range n)
 rwa [List.length_range] at this
theorem clB_S (s : Stg) (x : Ex) (k : Nat) : (valS (k : Int) (arcsOf s x) x.marks.length).2 = !clB s x k := by
 unfold valS clB
 cases valF (k : Int) (arcsOf s x) x.marks.length <;> rfl
theorem clB_B (s : Stg) (x : Ex) (k : Nat) : (valB (k : Int) (arcsOf s x) x.marks.length).2 = !clB s x k := by
 unfold valB clB
 cases valF (k : Int) (arcsOf s x) x.marks.length <;> rfl
structure CodI (s : Stg) (x : Ex) : Prop where
 n1 : 1 ≤ x.marks.length
 n : x.marks.length ≤ 300
 m : x.moves.length ≤ 10000
 b : ∀ v, v ∈ x.moves → 0 ≤ v.by_ ∧ v.by_ < s.labs.length
 a : ∀ a, a ∈ arcsOf s x → ArIn x.marks.length a
theorem codI {s : Stg} (h : (explS s).2 = true) : CodI s (explS s).1 := by
 obtain ⟨hg, hE⟩ := explS_Expl h
 have hl := (goodS_sigs hg).2.2.2
 refine ⟨hE.n.1, hE.n.2, (explS_in s).2, fun v hv => ?_, fun a ha => ?_⟩
 ·have := hE.inn v hv
  rw [hl]; exact this.2.2.2.2
 ·unfold arcsOf at ha
  obtain ⟨v, hv, rfl⟩ := List.mem_map.1 ha
  have := hE.inn v hv
  exact ⟨⟨this.1, this.2.1⟩, this.2.2.1, this.2.2.2.1⟩
set_option maxHeartbeats 4000000 in
theorem l5Clash_spec (s : Stg) (x : Ex) (hsg : s.sigs.length ≤ 100000) (hx : CodI s x) : ASpec Tryz.prog 136 [stgA s, rgA x] [] (Pure1 (.d (vI (clL s x s.sigs.length)))) := by
 have hHs := clL_succ s x
 have hHl := clL_len s x
 have hV := fun k : Nat => l5Values_spec s x k hx.n1 (by have := hx.n; omega) (by have := hx.m; omega) hx.b hx.a
 simp only [clB_S] at hV
 refine ASpec.of Tryz.func136 rfl rfl fun C hC => ?_
 refine AC.seq (AC.region ?_)
 refine AL.q (by exact h_boxF rfl rfl) rfl ?_
 refine AL.q (by exact h_boxF rfl rfl) rfl ?_
 refine za ?_
 refine AL.nil (th_n (AC.seq (AC.region ?_)))
 refine za ?_
 refine AL.nil (th_n (AC.seq (AC.seq (AC.region ?_))))
 refine zf ?_
 refine zr ?_
 refine AL.p (by exact g_len_view (k := s.sigs.length) rfl rfl (sigsL_len _)) rfl ?_
 refine zm ?_
 refine AL.nil (th_n (AC.block ?_))
 refine AC.loop (ι := Nat) (fun k => ⟨30, 600, [(2, .d (.ref (stgD s))), (3, .d (.ref (rgD x))), (5, .own 100 (clL s x k).length), (11, aI s.sigs.length), (12, aI k)], [(100, some (.arr 3 1 (ints (clL s x k))))]⟩) (fun k => k ≤ s.sigs.length) (fun k => s.sigs.length - k) (0) ?_ (Nat.zero_le _) ?_
 ·exact (Weak.nilOwn (i := 5) (e := 3) (sz := 1) rfl (by decide)).trans (zw [(100, _)] hC)
 ·intro k hk
  refine AC.seq (AC.region ?_)
  refine zc ?_
  refine AL.nil (th_n (AC.seq ?_))
  refine AC.condD rfl (fun h0 => ?_) (fun h0 => ?_)
  ·refine AC.skip (th_n (AC.seq (AC.block (AC.seq ?_))))
   have hk1 : k < s.sigs.length := by omega
   have hHk := hHs k
   have hHlk := hHl k
   have hVk := hV k
   obtain ⟨h, hh⟩ : ∃ h, h = clB s x k := ⟨_, rfl⟩
   rw [← hh] at hVk hHk
   clear hh
   refine AC.region ?_
   refine zm ?_
   refine za ?_
   refine AL.nil (th_n (AC.seq (AC.region ?_)))
   refine AL.p (by exact g_load_refN rfl rfl rfl rfl) rfl ?_
   refine AL.p (by exact g_load_refN rfl rfl rfl rfl) rfl ?_
   refine zm ?_
   refine AL.q (by exact h_pure en_l5Values rfl rfl (by repeat (first | exact rfl | exact DLead.same | refine ⟨_, _, rfl, ?_, ?_⟩ | refine ⟨_, rfl, ?_⟩)) hVk rfl) rfl ?_
   refine AL.p (by exact mv5 rfl) rfl ?_
   refine AL.p (by exact g_extract (r := .d _) rfl rfl) rfl ?_
   refine AL.p (by exact g_extract (r := .d _) rfl rfl) rfl ?_
   refine za ?_
   refine za ?_
   refine AL.nil (th_n (AC.seq (AC.region ?_)))
   refine zm ?_
   refine AL.p (by exact g_not rfl) rfl ?_
   refine AL.nil (th_n ?_)
   refine AC.condB rfl (fun h1 => ?_) (fun h1 => ?_)
   ·refine AC.region ?_
    refine AL.p (by exact mv2 rfl) rfl ?_
    refine zm ?_
    refine AL.q (by exact h_litF rfl rfl rfl rfl rfl rfl rfl rfl) rfl ?_
    refine AL.q (by exact h_appendI (clL s x k) [(k : Int)] (.own rfl rfl (ints_len _).symm) (.view rfl) (by rw [List.length_append]; simp only [List.length_cons, List.length_nil]; omega) (by simp)) rfl ?_
    refine AL.p (by exact as2 rfl) rfl ?_
    refine AL.nil (ib_n (th_n (AC.region ?_)))
    refine zA ?_
    refine zm ?_
    refine AL.nil (th_n ?_)
    (have e : h = true := (by simpa using ‹(!!h) = true›); rw [if_pos e] at hHk; exact ⟨k + 1, by omega, by omega, zw [(100, _)] hC (by rw [hHk]; repeat (first | exact True.intro | refine And.intro ?_ ?_ | exact DLead.same | exact rfl | refine ⟨_, rfl, ?_⟩)) (by rw [hHk]; repeat (first | exact True.intro | refine And.intro ?_ ?_ | exact rfl | refine ⟨_, _, rfl, rfl, ?_⟩))⟩)
   ·refine AC.skip (ib_n (th_n (AC.region ?_)))
    refine zA ?_
    refine zm ?_
    refine AL.nil (th_n ?_)
    (have e : ¬ h = true := (by simpa using ‹(!!h) = false›); rw [if_neg e, List.append_nil] at hHk; exact ⟨k + 1, by omega, by omega, zw [(100, 100)] hC (by rw [hHk]; repeat (first | exact True.intro | refine And.intro ?_ ?_ | exact DLead.same | exact rfl | refine ⟨_, rfl, ?_⟩)) (by rw [hHk]; repeat (first | exact True.intro | refine And.intro ?_ ?_ | exact rfl | refine ⟨_, _, rfl, rfl, ?_⟩))⟩)
  ·refine AC.exit (th_e (th_e (ib_y (th_n (AC.seq ?_)))))
   have hkk : k = s.sigs.length := by omega
   rw [hkk]
   refine AC.weak (Weak.freeze (i := 5) rfl rfl (Nat.le_of_eq (ints_len _).symm) (List.take_of_length_le (Nat.le_of_eq (ints_len _)))) ?_
   refine AC.region ?_
   refine zm ?_
   refine za ?_
   refine AL.nil (th_n (AC.ret (bq_r ?_)))
   exact ret0 rfl (by repeat (exact DLead.same))
theorem en_l5Clash : Enters Tryz.prog 136 := enters_of Tryz.func136 rfl rfl
def incR (s : Stg) : List Int × Bool := if (explS s).2 = true ∧ 0 < (clL s (explS s).1 s.sigs.length).length then (clL s (explS s).1 s.sigs.length, true) else ([], false)
set_option maxHeartbeats 4000000 in
theorem iIncon_spec (s : Stg) (hB : StgB s) : ASpec Tryz.prog 45 [stgA s] [] (Pure1 (.tup [.d (vI (incR s).1), aT (incR s).2])) := by
 have hX := iExplore_spec s hB
 have hXi := explS_in s
 have hR : incR s = if (explS s).2 = true ∧ 0 < (clL s (explS s).1 s.sigs.length).length then (clL s (explS s).1 s.sigs.length, true) else ([], false) := rfl
 have hI : (explS s).2 = true → CodI s (explS s).1 := codI
 obtain ⟨R, hRR⟩ : ∃ R, R = incR s := ⟨_, rfl⟩
 rw [← hRR] at hR ⊢
 obtain ⟨X, hXX⟩ : ∃ X, X = explS s := ⟨_, rfl⟩
 rw [← hXX] at hX hXi hR hI
 clear hXX hRR
 obtain ⟨x, ok⟩ := X
 dsimp only at hX hXi hR hI
 have hsg := hB.sg
 have hHs := clL_succ s x
 have hHl := clL_len s x
 have hR2 : ok = true → R = (clL s x s.sigs.length, decide (0 < (clL s x s.sigs.length).length)) := fun h => by
  rw [hR]
  by_cases q : 0 < (clL s x s.sigs.length).length
  ·rw [if_pos ⟨h, q⟩, decide_eq_true q]
  ·rw [if_neg fun g => q g.2, decide_eq_false q, List.eq_nil_of_length_eq_zero (Nat.eq_zero_of_not_pos q)]
 refine ASpec.of Tryz.func45 rfl rfl fun C hC => ?_
 refine AC.seq (AC.region ?_)
 refine AL.q (by exact h_boxF rfl rfl) rfl ?_
 refine za ?_
 refine za ?_
 refine AL.nil (th_n (AC.seq (AC.region ?_)))
 refine AL.p (by exact g_load_refN rfl rfl rfl rfl) rfl ?_
 refine AL.q (by exact h_pure en_iExplore rfl rfl (by repeat (first | exact rfl | exact DLead.same | refine ⟨_, _, rfl, ?_, ?_⟩ | refine ⟨_, rfl, ?_⟩)) hX rfl) rfl ?_
 refine AL.p (by exact mv5 rfl) rfl ?_
 refine AL.p (by exact g_extract (r := .agg _) rfl rfl) rfl ?_
 refine AL.p (by exact g_extract (r := .d _) rfl rfl) rfl ?_
 refine AL.q (by exact h_alloc rfl) rfl ?_
 refine zs ?_
 refine za ?_
 refine AL.nil (th_n (AC.seq (AC.seq (AC.region ?_))))
 refine zm ?_
 refine AL.p (by exact g_not rfl) rfl ?_
 refine AL.nil (th_n ?_)
 refine AC.condB rfl (fun h0 => ?_) (fun h0 => ?_)
 ·refine AC.seq (AC.region ?_)
  refine za ?_
  refine za ?_
  refine AL.nil (th_n (AC.ret (th_r (bq_r ?_))))
  have hno : ¬ ok = true := by simpa using h0
  have e : R = ([], false) := hR.trans (if_neg fun q => hno q.1)
  exact ret0 rfl (by rw [e]; show AV.leads _ (.tup [.d (vI []), aT false]) _; repeat (first | exact DLead.same | exact DLead.nil | exact rfl | refine ⟨_, rfl, ?_⟩ | refine ⟨_, _, rfl, ?_, ?_⟩))
 ·refine AC.skip (th_n (AC.seq ?_))
  have hok : ok = true := by simpa using h0
  have hx := hI hok
  have hV := fun k : Nat => valuesOf_spec k (arcsOf s x) x.marks.length (by omega) (by rw [arcsOf_len]; omega) hx.a
  simp only [clB_B] at hV
  refine AC.region ?_
  refine AL.q (by exact h_lit rfl rfl rfl rfl rfl rfl rfl rfl) rfl ?_
  refine AL.p (by exact g_load_refN rfl rfl rfl rfl) rfl ?_
  refine AL.p (by exact g_load_ptrN rfl rfl rfl rfl rfl) rfl ?_
  refine AL.q (by exact h_pure en_labArcs rfl rfl (by repeat (first | exact rfl | exact DLead.same | refine ⟨_, _, rfl, ?_, ?_⟩ | refine ⟨_, rfl, ?_⟩)) (labArcs_spec s x (by omega) hx.b) rfl) rfl ?_
  refine AL.p (by exact as2 rfl) rfl ?_
  refine za ?_
  refine AL.nil (th_n (AC.seq (AC.seq (AC.region ?_))))
  refine zf ?_
  refine zr ?_
  refine AL.p (by exact g_len_view (k := s.sigs.length) rfl rfl (sigsL_len _)) rfl ?_
  refine zm ?_
  refine AL.nil (th_n (AC.block ?_))
  refine AC.loop (ι := Nat) (fun k => ⟨48, 600, [(1, .d (.ref (stgD s))), (4, .ptr 201 0), (6, .own 100 (clL s x k).length), (7, .d (vArs (arcsOf s x))), (24, aI s.sigs.length), (25, aI k)], [(201, some (.cells 35 (rgC x))), (100, some (.arr 3 1 (ints (clL s x k))))]⟩) (fun k => k ≤ s.sigs.length) (fun k => s.sigs.length - k) (0) ?_ (Nat.zero_le _) ?_
  ·exact zw [(201, _), (100, _)] hC
  ·intro k hk
   refine AC.seq (AC.region ?_)
   refine zc ?_
   refine AL.nil (th_n (AC.seq ?_))
   refine AC.condD rfl (fun h1 => ?_) (fun h1 => ?_)
   ·refine AC.skip (th_n (AC.seq (AC.block (AC.seq ?_))))
    have hk1 : k < s.sigs.length := by omega
    have hHk := hHs k
    have hHlk := hHl k
    have hVk := hV k
    obtain ⟨h, hh⟩ : ∃ h, h = clB s x k := ⟨_, rfl⟩
    rw [← hh] at hVk hHk
    clear hh
    refine AC.region ?_
    refine zm ?_
    refine za ?_
    refine AL.nil (th_n (AC.seq (AC.region ?_)))
    refine zF ?_
    refine zl ?_
    refine AL.p (by exact g_len_view (k := x.marks.length) rfl rfl (tsX_len _)) rfl ?_
    refine zm ?_
    refine zm ?_
    refine AL.q (by exact h_pure en_valuesOf rfl rfl (by repeat (first | exact rfl | exact DLead.same | refine ⟨_, _, rfl, ?_, ?_⟩)) hVk rfl) rfl ?_
    refine AL.p (by exact mv5 rfl) rfl ?_
    refine AL.p (by exact g_extract (r := .d _) rfl rfl) rfl ?_
    refine AL.p (by exact g_extract (r := .d _) rfl rfl) rfl ?_
    refine za ?_
    refine za ?_
    refine AL.nil (th_n (AC.seq (AC.region ?_)))
    refine zm ?_
    refine AL.p (by exact g_not rfl) rfl ?_
    refine AL.nil (th_n ?_)
    refine AC.condB rfl (fun h2 => ?_) (fun h2 => ?_)
    ·refine AC.region ?_
     refine AL.p (by exact mv2 rfl) rfl ?_
     refine zm ?_
     refine AL.q (by exact h_litF rfl rfl rfl rfl rfl rfl rfl rfl) rfl ?_
     refine AL.q (by exact h_appendI (clL s x k) [(k : Int)] (.own rfl rfl (ints_len _).symm) (.view rfl) (by rw [List.length_append]; simp only [List.length_cons, List.length_nil]; omega) (by simp)) rfl ?_
     refine AL.p (by exact as2 rfl) rfl ?_
     refine AL.nil (ib_n (th_n (AC.region ?_)))
     refine zA ?_
     refine zm ?_
     refine AL.nil (th_n ?_)
     (have e : h = true := (by simpa using ‹(!!h) = true›); rw [if_pos e] at hHk; exact ⟨k + 1, by omega, by omega, zw [(201, 201), (100, _)] hC (by rw [hHk]; repeat (first | exact True.intro | refine And.intro ?_ ?_ | exact DLead.same | exact rfl | refine ⟨_, rfl, ?_⟩)) (by rw [hHk]; repeat (first | exact True.intro | refine And.intro ?_ ?_ | exact DLead.same | exact rfl | refine ⟨_, _, rfl, rfl, ?_⟩ | refine ⟨_, rfl, ?_⟩ | refine ⟨_, _, rfl, ?_, ?_⟩))⟩)
    ·refine AC.skip (ib_n (th_n (AC.region ?_)))
     refine zA ?_
     refine zm ?_
     refine AL.nil (th_n ?_)
     (have e : ¬ h = true := (by simpa using ‹(!!h) = false›); rw [if_neg e, List.append_nil] at hHk; exact ⟨k + 1, by omega, by omega, zw [(201, 201), (100, 100)] hC (by rw [hHk]; repeat (first | exact True.intro | refine And.intro ?_ ?_ | exact DLead.same | exact rfl | refine ⟨_, rfl, ?_⟩)) (by rw [hHk]; repeat (first | exact True.intro | refine And.intro ?_ ?_ | exact DLead.same | exact rfl | refine ⟨_, _, rfl, rfl, ?_⟩ | refine ⟨_, rfl, ?_⟩ | refine ⟨_, _, rfl, ?_, ?_⟩))⟩)
   ·refine AC.exit (th_e (th_e (ib_y (th_n (AC.seq ?_)))))
    have hkk : k = s.sigs.length := by omega
    rw [hkk]
    refine AC.weak (Weak.freeze (i := 6) rfl rfl (Nat.le_of_eq (ints_len _).symm) (List.take_of_length_le (Nat.le_of_eq (ints_len _)))) ?_
    refine AC.region ?_
    refine zm ?_
    refine zm ?_
    refine AL.p (by exact g_len_view (k := (clL s x s.sigs.length).length) rfl rfl (ints_len _)) rfl ?_
    refine zc ?_
    refine za ?_
    refine za ?_
    refine AL.nil (th_n (AC.ret (bq_r ?_)))
    exact ret2 rfl (by rw [hR2 hok]) (by rw [hR2 hok]; simp)
theorem en_iIncon : Enters Tryz.prog 45 := enters_of Tryz.func45 rfl rfl
set_option maxHeartbeats 4000000 in
theorem sIncon_spec (s : Stg) (hB : StgB s) : ASpec Tryz.prog 46 [stgA s] [] (Pure1 (.tup [.d (vI (incR s).1), aT (incR s).2])) := by
 have hX := sExplore_spec s hB
 have hXi := explS_in s
 have hR : incR s = if (explS s).2 = true ∧ 0 < (clL s (explS s).1 s.sigs.length).length then (clL s (explS s).1 s.sigs.length, true) else ([], false) := rfl
 have hI : (explS s).2 = true → CodI s (explS s).1 := codI
 obtain ⟨R, hRR⟩ : ∃ R, R = incR s := ⟨_, rfl⟩
 rw [← hRR] at hR ⊢
 obtain ⟨X, hXX⟩ : ∃ X, X = explS s := ⟨_, rfl⟩
 rw [← hXX] at hX hXi hR hI
 clear hXX hRR
 obtain ⟨x, ok⟩ := X
 dsimp only at hX hXi hR hI
 have hsg := hB.sg
 have hHl := clL_len s x s.sigs.length
 have hCl := fun h : ok = true => l5Clash_spec s x hsg (hI h)
 refine ASpec.of Tryz.func46 rfl rfl fun C hC => ?_
 refine AC.seq (AC.region ?_)
 refine AL.q (by exact h_boxF rfl rfl) rfl ?_
 refine za ?_
 refine za ?_
 refine AL.nil (th_n (AC.seq (AC.region ?_)))
 refine AL.p (by exact g_load_refN rfl rfl rfl rfl) rfl ?_
 refine AL.q (by exact h_fun (cs := []) en_sExplore rfl rfl (by repeat (first | exact rfl | exact DLead.same | refine ⟨_, _, rfl, ?_, ?_⟩ | refine ⟨_, rfl, ?_⟩)) (by repeat (exact True.intro)) hX rfl rfl rfl rfl) rfl ?_
 refine AL.p (by exact mv5 rfl) rfl ?_
 refine AL.p (by exact g_extract (r := .agg _) rfl rfl) rfl ?_
 refine AL.p (by exact g_extract (r := .d _) rfl rfl) rfl ?_
 refine AL.q (by exact h_alloc rfl) rfl ?_
 refine zs ?_
 refine za ?_
 refine AL.nil (th_n (AC.seq (AC.seq ?_)))
 refine AC.weak (Weak.freezeP (els' := tsX x.marks) 4 0 rfl rfl rfl rfl (by rw [tsX_len]; exact Nat.le_refl _) (List.take_of_length_le (by rw [tsX_len]; exact Nat.le_refl _)) rfl) ?_
 refine AC.weak (Weak.freezeP (els' := mvL x.moves) 4 1 rfl rfl rfl rfl (by rw [mvL_len]; exact Nat.le_refl _) (List.take_of_length_le (by rw [mvL_len]; exact Nat.le_refl _)) rfl) ?_
 refine AC.weak (t := ⟨23, 400, [(1, .d (.ref (stgD s))), (2, .d (vI [])), (3, aT false), (4, .ptr 201 0), (5, aT ok)], [(201, some (.cells 35 (rgC x)))]⟩) (zw [(201, _)] hC) ?_
 refine AC.region ?_
 refine zm ?_
 refine AL.p (by exact g_not rfl) rfl ?_
 refine zm ?_
 refine AL.caseGB rfl rfl (fun h0 => ?_) (fun h0 => ?_)
 ·refine zn ?_
  refine zn ?_
  refine zn ?_
  refine zn ?_
  refine zn ?_
  refine zQ ?_
  refine AL.nil (th_n ?_)
  refine AC.condT rfl ?_
  refine AC.seq (AC.region ?_)
  refine za ?_
  refine za ?_
  refine AL.nil (th_n (AC.ret (th_r (bq_r ?_))))
  have e : R = ([], false) := hR.trans (if_neg fun g => by have := g.2; have := g.1; simp_all)
  exact ret0 rfl (by rw [e]; show AV.leads _ (.tup [.d (vI []), aT false]) _; repeat (first | exact DLead.same | exact DLead.nil | exact rfl | refine ⟨_, rfl, ?_⟩ | refine ⟨_, _, rfl, ?_, ?_⟩))
 ·refine zy ?_
  refine AL.p (by exact g_load_refN rfl rfl rfl rfl) rfl ?_
  refine zy ?_
  refine AL.p (by exact g_load_ptrN rfl rfl rfl rfl rfl) rfl ?_
  refine zy ?_
  refine AL.q (by exact h_pure en_l5Clash rfl rfl (by repeat (first | exact rfl | exact DLead.same | refine ⟨_, _, rfl, ?_, ?_⟩ | refine ⟨_, rfl, ?_⟩)) (hCl (by simp_all)) rfl) rfl ?_
  refine zy ?_
  refine AL.p (by exact g_len_view (k := (clL s x s.sigs.length).length) rfl rfl (ints_len _)) rfl ?_
  refine zy ?_
  refine zc ?_
  refine zP ?_
  refine AL.nil (th_n ?_)
  refine AC.condD rfl (fun h1 => ?_) (fun h1 => ?_)
  ·refine AC.seq (AC.region ?_)
   refine za ?_
   refine za ?_
   refine AL.nil (th_n (AC.ret (th_r (bq_r ?_))))
   have e : R = ([], false) := hR.trans (if_neg fun g => by have := g.2; have := g.1; simp_all)
   exact ret0 rfl (by rw [e]; show AV.leads _ (.tup [.d (vI []), aT false]) _; repeat (first | exact DLead.same | exact DLead.nil | exact rfl | refine ⟨_, rfl, ?_⟩ | refine ⟨_, _, rfl, ?_, ?_⟩))
  ·refine AC.skip (th_n (AC.seq (AC.region ?_)))
   refine AL.p (by exact g_load_refN rfl rfl rfl rfl) rfl ?_
   refine AL.p (by exact g_load_ptrN rfl rfl rfl rfl rfl) rfl ?_
   refine AL.q (by exact h_pure en_l5Clash rfl rfl (by repeat (first | exact rfl | exact DLead.same | refine ⟨_, _, rfl, ?_, ?_⟩ | refine ⟨_, rfl, ?_⟩)) (hCl (by simp_all)) rfl) rfl ?_
   refine za ?_
   refine za ?_
   refine AL.nil (th_n (AC.ret (bq_r ?_)))
   have e : R = (clL s x s.sigs.length, true) := hR.trans (if_pos ⟨by simp_all, by have : ¬ ((clL s x s.sigs.length).length : Int) = 0 := (by assumption); omega⟩)
   exact ret0 rfl (by rw [e]; show AV.leads _ (.tup [.d (vI (clL s x s.sigs.length)), aT true]) _; repeat (first | exact DLead.same | exact rfl | refine ⟨_, rfl, ?_⟩ | refine ⟨_, _, rfl, ?_, ?_⟩))
theorem en_sIncon : Enters Tryz.prog 46 := enters_of Tryz.func46 rfl rfl
structure SG where
 sigs : List Sig
 codes : List (List UInt8)
 arcs : List Ar
abbrev sgD (c : SG) : List DV := [vSigs c.sigs, .view 9 1 (tsX c.codes), vArs c.arcs]
abbrev sgC (c : SG) : List AV := [.d (vSigs c.sigs), .d (.view 9 1 (tsX c.codes)), .d (vArs c.arcs)]
abbrev sgA (c : SG) : AV := .agg [.d (vSigs c.sigs), .d (.view 9 1 (tsX c.codes)), .d (vArs c.arcs)]
abbrev zSG : List AV := [.d (.val (.slice none 0 0)), .d (.val (.slice none 0 0)), .d (.val (.slice none 0 0))]
theorem iterV_len {sg : Int} {L : List Ar} {n : Nat} (hL : ∀ a, a ∈ L → ArIn n a) : ∀ (k : Nat) {V W : List (Option Bool)}, V.length = n → iterV sg L k V = some W → W.length = n
 | 0, V, W, hV, h => by cases h; exact hV
 | k + 1, V, W, hV, h => by
  rw [iterV] at h
  cases hp : passV sg L V with
  | none => rw [hp] at h; cases h
  | some U =>
   rw [hp, Option.bind_some] at h
   exact iterV_len hL k ((passV_ups hV hL hp).1.trans hV) h
theorem valF_len {sg : Int} {L : List Ar} {n : Nat} {V : List (Option Bool)} (hL : ∀ a, a ∈ L → ArIn n a) (h : valF sg L n = some V) : V.length = n := iterV_len hL _ (by simp) h
def colC (s : Stg) (x : Ex) (j i : Nat) : UInt8 := chB (vAt ((valF (j : Int) (arcsOf s x) x.marks.length).getD []) i)
def codeC (s : Stg) (x : Ex) (k i : Nat) : List UInt8 := (List.range k).map fun j => colC s x j i
def mixC (s : Stg) (x : Ex) (k i : Nat) : List (List UInt8) := (List.range x.marks.length).map fun a => codeC s x (if a < i then k + 1 else k) a
theorem codeC_len (s : Stg) (x : Ex) (k i : Nat) : (codeC s x k i).length = k := by unfold codeC; simp
theorem codeC_succ (s : Stg) (x : Ex) (k i : Nat) : codeC s x (k + 1) i = codeC s x k i ++ [colC s x k i] := by unfold codeC; rw [List.range_succ, List.map_append]; rfl
theorem mixC_len (s : Stg) (x : Ex) (k i : Nat) : (mixC s x k i).length = x.marks.length := by unfold mixC; simp
theorem mixC_next (s : Stg) (x : Ex) (k : Nat) : mixC s x k x.marks.length = mixC s x (k + 1) 0 := by
 unfold mixC
 refine List.map_congr_left fun a ha => ?_
 rw [if_pos (List.mem_range.1 ha), if_neg (Nat.not_lt_zero _)]
theorem mixC_get {s : Stg} {x : Ex} {k i : Nat} (h : i < x.marks.length) : (tsX (mixC s x k i))[i]? = some [dS (bstr (codeC s x k i))] := by
 unfold mixC
 rw [List.getElem?_map, List.getElem?_map, List.getElem?_range h, Option.map_some, Option.map_some, if_neg (Nat.lt_irrefl _)]
theorem mixC_set {s : Stg} {x : Ex} {k i : Nat} (h : i < x.marks.length) : (tsX (mixC s x k i)).set i [dS (bstr (codeC s x k i) ++ bstr [colC s x k i])] = tsX (mixC s x k (i + 1)) := by
 rw [bstr_append, ← codeC_succ]
 unfold mixC
 refine List.ext_getElem? fun a => ?_
 rw [List.getElem?_set]
 by_cases e : i = a
 ·subst e
  rw [if_pos rfl, if_pos (by simpa using h), List.getElem?_map, List.getElem?_map, List.getElem?_range h, Option.map_some, Option.map_some, if_pos (Nat.lt_succ_self _)]
 ·rw [if_neg e]
  by_cases ha : a < x.marks.length
  ·rw [List.getElem?_map, List.getElem?_map, List.getElem?_map, List.getElem?_map, List.getElem?_range ha]
   simp only [Option.map_some]
   congr 5
   by_cases q : a < i
   ·rw [if_pos q, if_pos (by omega)]
   ·rw [if_neg q, if_neg (by omega)]
  ·rw [List.getElem?_eq_none (by simpa using ha), List.getElem?_eq_none (by simpa using ha)]
theorem mixC_zero (s : Stg) (x : Ex) : tsX (mixC s x 0 0) = List.replicate x.marks.length (([ZK.str] : List ZK).map fun z => DV.val z.val) := by
 unfold mixC
 refine List.ext_getElem? fun a => ?_
 by_cases ha : a < x.marks.length
 ·rw [List.getElem?_map, List.getElem?_map, List.getElem?_range ha, List.getElem?_replicate, if_pos ha]; rfl
 ·rw [List.getElem?_eq_none (by simpa using ha), List.getElem?_eq_none (by simpa using ha)]
def codeS (s : Stg) : SG × Bool := if (explS s).2 = true ∧ (clL s (explS s).1 s.sigs.length).length = 0 ∧ (explS s).1.moves.length ≤ 4000 then (⟨s.sigs, mixC s (explS s).1 s.sigs.length 0, arcsOf s (explS s).1⟩, true) else (⟨[], [], []⟩, false)
theorem clL_zero {s : Stg} {x : Ex} {n : Nat} : (clL s x n).length = 0 ↔ ∀ k, k < n → clB s x k = false := by
 unfold clL nI
 rw [List.length_map, List.length_eq_zero_iff, List.filter_eq_nil_iff]
 exact ⟨fun h k hk => by have := h k (List.mem_range.2 hk); simpa using this, fun h k hk => by rw [h k (List.mem_range.1 hk)]; decide⟩
theorem valB_col {s : Stg} {x : Ex} {k : Nat} (hL : ∀ a, a ∈ arcsOf s x → ArIn x.marks.length a) (h : clB s x k = false) : (valB (k : Int) (arcsOf s x) x.marks.length).1.length = x.marks.length ∧ ∀ i, i < x.marks.length → (valB (k : Int) (arcsOf s x) x.marks.length).1.getD i 0 = colC s x k i := by
 unfold clB at h
 unfold valB colC
 cases hv : valF (k : Int) (arcsOf s x) x.marks.length with
 | none => rw [hv] at h; cases h
 | some V =>
  have hl := valF_len hL hv
  refine ⟨by simp [hl], fun i hi => ?_⟩
  show (V.map chB).getD i 0 = chB (vAt V i)
  rw [List.getD_eq_getElem?_getD, List.getElem?_map, List.getElem?_eq_getElem (by omega), vAt_get (by omega)]; rfl
theorem cloneSig_spec (l : List Sig) (hl : l.length ≤ 1000000) : ASpec Tryz.prog 133 [.d (vSigs l)] [] (Pure1 (.d (vSigs l))) := by
 refine ASpec.of Tryz.func133 rfl rfl fun C hC => ?_
 refine AC.seq (AC.region ?_)
 refine za ?_
 refine AL.nil (th_n (AC.seq (AC.seq (AC.region ?_))))
 refine zm ?_
 refine AL.eqNil (ht := rfl) (hx := rfl) rfl (fun b hb => ?_)
 refine AL.nil (th_n ?_)
 refine AC.condB rfl (fun h0 => ?_) (fun h0 => ?_)
 ·refine AC.seq (AC.region ?_)
  refine za ?_
  refine AL.nil (th_n (AC.ret (th_r (bq_r ?_))))
  have e : l = [] := by have := hb h0; simpa [sigsL] using this
  subst e
  exact ret0 rfl (by repeat (exact DLead.nil))
 ·refine AC.skip (th_n (AC.seq (AC.region ?_)))
  refine AL.q (by exact h_lit rfl rfl rfl rfl rfl rfl rfl rfl) rfl ?_
  refine zm ?_
  refine AL.q (by exact h_appendSg [] l (.own rfl rfl rfl) (.view rfl) (by simp; omega) (by simp)) rfl ?_
  refine AL.weak (Weak.freeze (i := 7) rfl rfl (Nat.le_of_eq (sigsL_len _).symm) (List.take_of_length_le (Nat.le_of_eq (sigsL_len _)))) ?_
  refine za ?_
  refine AL.nil (th_n (AC.ret (bq_r ?_)))
  exact ret1 rfl rfl
theorem en_cloneSig : Enters Tryz.prog 133 := enters_of Tryz.func133 rfl rfl
set_option maxHeartbeats 8000000 in
theorem iBuild_spec (s : Stg) (hB : StgB s) : ASpec Tryz.prog 43 [stgA s] [] (Pure1 (.tup [sgA (codeS s).1, aT (codeS s).2])) := by
 have hX := iExplore_spec s hB
 have hXi := explS_in s
 have hR : codeS s = if (explS s).2 = true ∧ (clL s (explS s).1 s.sigs.length).length = 0 ∧ (explS s).1.moves.length ≤ 4000 then (⟨s.sigs, mixC s (explS s).1 s.sigs.length 0, arcsOf s (explS s).1⟩, true) else (⟨[], [], []⟩, false) := rfl
 have hI : (explS s).2 = true → CodI s (explS s).1 := codI
 obtain ⟨R, hRR⟩ : ∃ R, R = codeS s := ⟨_, rfl⟩
 rw [← hRR] at hR ⊢
 obtain ⟨X, hXX⟩ : ∃ X, X = explS s := ⟨_, rfl⟩
 rw [← hXX] at hX hXi hR hI
 clear hXX hRR
 obtain ⟨x, ok⟩ := X
 dsimp only at hX hXi hR hI
 have hsg := hB.sg
 have hCl := cloneSig_spec s.sigs (by omega)
 have hm0 := mixC_zero s x
 have hml := mixC_len s x
 have hgt := fun (k i : Nat) (h : i < x.marks.length) => mixC_get (s := s) (k := k) h
 have hst := fun (k i : Nat) (h : i < x.marks.length) => mixC_set (s := s) (k := k) h
 have hnx := mixC_next s x
 have hcl := fun k i => codeC_len s x k i
 have hz : (clL s x s.sigs.length).length = 0 ↔ ∀ k, k < s.sigs.length → clB s x k = false := clL_zero
 obtain ⟨n, hn⟩ : ∃ n, n = x.marks.length := ⟨_, rfl⟩
 refine ASpec.of Tryz.func43 rfl rfl fun C hC => ?_
 refine AC.seq (AC.region ?_)
 refine AL.q (by exact h_boxF rfl rfl) rfl ?_
 refine AL.q (by exact h_alloc rfl) rfl ?_
 refine za ?_
 refine AL.nil (th_n (AC.seq (AC.region ?_)))
 refine AL.p (by exact g_load_refN rfl rfl rfl rfl) rfl ?_
 refine AL.q (by exact h_pure en_iExplore rfl rfl (by repeat (first | exact rfl | exact DLead.same | refine ⟨_, _, rfl, ?_, ?_⟩ | refine ⟨_, rfl, ?_⟩)) hX rfl) rfl ?_
 refine AL.p (by exact mv5 rfl) rfl ?_
 refine AL.p (by exact g_extract (r := .agg _) rfl rfl) rfl ?_
 refine AL.p (by exact g_extract (r := .d _) rfl rfl) rfl ?_
 refine AL.q (by exact h_alloc rfl) rfl ?_
 refine zs ?_
 refine za ?_
 refine AL.nil (th_n (AC.seq (AC.seq (AC.region ?_))))
 refine zm ?_
 refine AL.p (by exact g_not rfl) rfl ?_
 refine zm ?_
 refine AL.caseGB rfl rfl (fun h0 => ?_) (fun h0 => ?_)
 ·refine zn ?_
  refine zn ?_
  refine zn ?_
  refine zn ?_
  refine zQ ?_
  refine AL.nil (th_n ?_)
  refine AC.condT rfl ?_
  refine AC.seq (AC.region ?_)
  refine AL.p (by exact g_build rfl rfl rfl) rfl ?_
  refine zs ?_
  refine za ?_
  refine AL.nil (th_n (AC.ret (th_r (bq_r ?_))))
  have e : R = (⟨[], [], []⟩, false) := hR.trans (if_neg fun q => by have q1 := q.1; have q2 := q.2.2; simp_all)
  exact ret0 rfl (by rw [e]; show AV.leads _ (.tup [sgA ⟨[], [], []⟩, aT false]) _; repeat (first | exact DLead.same | exact DLead.nil | exact rfl | refine ⟨_, rfl, ?_⟩ | refine ⟨_, _, rfl, ?_, ?_⟩))
 ·refine zy ?_
  refine zF ?_
  refine zy ?_
  refine zl ?_
  refine zy ?_
  refine AL.p (by exact g_len_view (k := x.moves.length) rfl rfl (mvL_len _)) rfl ?_
  refine zy ?_
  refine zc ?_
  refine zP ?_
  refine AL.nil (th_n ?_)
  refine AC.condD rfl (fun h1 => ?_) (fun h1 => ?_)
  ·refine AC.seq (AC.region ?_)
   refine AL.p (by exact g_build rfl rfl rfl) rfl ?_
   refine zs ?_
   refine za ?_
   refine AL.nil (th_n (AC.ret (th_r (bq_r ?_))))
   have e : R = (⟨[], [], []⟩, false) := hR.trans (if_neg fun q => by have q1 := q.1; have q2 := q.2.2; (have := ‹(x.moves.length : Int) > 4000›; omega))
   exact ret0 rfl (by rw [e]; show AV.leads _ (.tup [sgA ⟨[], [], []⟩, aT false]) _; repeat (first | exact DLead.same | exact DLead.nil | exact rfl | refine ⟨_, rfl, ?_⟩ | refine ⟨_, _, rfl, ?_, ?_⟩))
  ·refine AC.skip (th_n (AC.seq ?_))
   have hok : ok = true := by simp_all
   have hmv : x.moves.length ≤ 4000 := by have := ‹¬ (x.moves.length : Int) > 4000›; omega
   have hx := hI hok
   have hV := fun k : Nat => valuesOf_spec k (arcsOf s x) x.marks.length (by omega) (by rw [arcsOf_len]; omega) hx.a
   simp only [clB_B] at hV
   have hcol := fun (k : Nat) (h : clB s x k = false) => valB_col hx.a h
   have hLA := labArcs_spec s x (by omega) hx.b
   have hAl := arcsOf_len s x
   obtain ⟨A, hA⟩ : ∃ A, A = arcsOf s x := ⟨_, rfl⟩
   rw [← hA] at hR hV hcol hLA hAl
   refine AC.drawn' mixed_ok [[], [0], [0,1], [], [3], [3,4], [3,4,5], [], [], [0,1,2,7,8], [0,1,2,3,4,5,6,7,8,9], [], [0,1,2,3,4,5,6,7,8,9,10,11]] (by decide) ?_
   refine DF.op 0 [] 13 rfl rfl rfl (.free rfl (NOp.of (by exact g_fa_ref rfl rfl rfl rfl rfl rfl))) rfl ?_
   refine DF.op 1 [0] 13 rfl rfl rfl (.free rfl (NOp.of (by exact g_load_ref rfl rfl rfl))) rfl ?_
   refine DF.op 2 [0,1] 13 rfl rfl rfl (.free rfl (by exact h_pure en_cloneSig rfl rfl (by repeat (first | exact rfl | exact DLead.same | refine ⟨_, _, rfl, ?_, ?_⟩)) hCl rfl)) rfl ?_
   refine DF.op 3 [] 13 rfl rfl rfl (.free rfl (NOp.of (by exact g_fa_ptr rfl rfl rfl rfl rfl))) rfl ?_
   refine DF.op 4 [3] 13 rfl rfl rfl (.free rfl (NOp.of (by exact g_load_ptr rfl rfl rfl rfl rfl))) rfl ?_
   refine DF.op 5 [3,4] 13 rfl rfl rfl (.free rfl (NOp.of (by exact g_len_view (k := x.marks.length) rfl rfl (tsX_len _)))) rfl ?_
   refine DF.op 6 [3,4,5] 13 rfl rfl rfl (.free rfl (by exact h_make (k := x.marks.length) rfl rfl rfl rfl rfl rfl rfl rfl (by show 16 * x.marks.length ≤ _; omega) (by omega))) rfl ?_
   refine DF.op 7 [] 13 rfl rfl rfl (.free rfl (NOp.of (by exact g_load_refN rfl rfl rfl rfl))) rfl ?_
   refine DF.op 8 [] 13 rfl rfl rfl (.free rfl (NOp.of (by exact g_load_ptrN rfl rfl rfl rfl rfl))) rfl ?_
   refine DF.op 9 [0,1,2,7,8] 13 rfl rfl rfl (.free rfl (by exact h_pure en_labArcs rfl rfl (by repeat (first | exact rfl | exact DLead.same | refine ⟨_, _, rfl, ?_, ?_⟩ | refine ⟨_, rfl, ?_⟩)) hLA rfl)) rfl ?_
   refine DF.op 10 (List.range 10) 13 rfl rfl rfl (.free rfl (NOp.of (by exact g_build rfl rfl rfl))) rfl ?_
   refine DF.op 11 [] 13 rfl rfl rfl (.free rfl (by exact h_alloc rfl)) rfl ?_
   refine DF.op 12 (List.range 12) 13 rfl rfl rfl (.free rfl (by exact h_store rfl rfl rfl rfl rfl rfl)) rfl ?_
   refine DF.fin (ps := [(0,3),(0,4),(0,5),(0,6),(0,7),(0,8),(0,11),(1,3),(1,4),(1,5),(1,6),(1,7),(1,8),(1,11),(2,3),(2,4),(2,5),(2,6),(2,7),(2,8),(2,11),(3,0),(3,1),(3,2),(3,7),(3,8),(3,9),(3,11),(4,0),(4,1),(4,2),(4,7),(4,8),(4,9),(4,11),(5,0),(5,1),(5,2),(5,7),(5,8),(5,9),(5,11),(6,0),(6,1),(6,2),(6,7),(6,8),(6,9),(6,11),(7,0),(7,1),(7,2),(7,3),(7,4),(7,5),(7,6),(7,8),(7,11),(8,0),(8,1),(8,2),(8,3),(8,4),(8,5),(8,6),(8,7),(8,11),(9,3),(9,4),(9,5),(9,6),(9,11),(10,11),(11,0),(11,1),(11,2),(11,3),(11,4),(11,5),(11,6),(11,7),(11,8),(11,9),(11,10)]) 13 rfl (by decide +kernel) (by decide +kernel) (by rfl) ?_
   refine th_n (AC.seq (AC.seq (AC.region ?_)))
   refine zf ?_
   refine zr ?_
   refine AL.p (by exact g_len_view (k := s.sigs.length) rfl rfl (sigsL_len _)) rfl ?_
   refine zm ?_
   refine AL.nil (th_n (AC.block ?_))
   refine AC.loop (ι := Nat) (fun k => ⟨76, 600, [(1, .d (.ref (stgD s))), (2, .ptr 202 0), (4, .ptr 201 0), (6, .ptr 203 0), (39, aI s.sigs.length), (40, aI k)], [(201, some (.cells 35 (rgC x))), (202, some (.cells 68 zSG)), (203, some (.cells 68 [.d (vSigs s.sigs), .own 100 x.marks.length, .d (vArs A)])), (100, some (.arr 9 1 (tsX (mixC s x k 0))))]⟩) (fun k => k ≤ s.sigs.length ∧ ∀ j, j < k → clB s x j = false) (fun k => s.sigs.length - k) (0) ?_ (⟨Nat.zero_le _, fun j hj => absurd hj (Nat.not_lt_zero _)⟩) ?_
   ·exact zw [(201, _), (202, _), (203, _), (100, _)] hC (b := by rw [hm0]; repeat (first | exact True.intro | refine And.intro ?_ ?_ | exact DLead.same | exact rfl | refine ⟨_, _, rfl, rfl, ?_⟩ | refine ⟨_, rfl, ?_⟩ | refine ⟨_, _, rfl, ?_, ?_⟩))
   ·rintro k ⟨hk, hfine⟩
    refine AC.seq (AC.region ?_)
    refine zc ?_
    refine AL.nil (th_n (AC.seq ?_))
    refine AC.condD rfl (fun h2 => ?_) (fun h2 => ?_)
    ·refine AC.skip (th_n (AC.seq (AC.block (AC.seq ?_))))
     have hk1 : k < s.sigs.length := by omega
     have hVk := hV k
     have hck := hcol k
     obtain ⟨b, hb⟩ : ∃ b, b = clB s x k := ⟨_, rfl⟩
     rw [← hb] at hVk hck
     obtain ⟨B, hBB⟩ : ∃ B, B = valB (k : Int) A x.marks.length := ⟨_, rfl⟩
     rw [← hBB] at hVk hck
     clear hBB
     refine AC.region ?_
     refine zm ?_
     refine za ?_
     refine AL.nil (th_n (AC.seq (AC.region ?_)))
     refine zF ?_
     refine zl ?_
     refine AL.p (by exact g_len_view (k := x.marks.length) rfl rfl (tsX_len _)) rfl ?_
     refine zF ?_
     refine zl ?_
     refine zm ?_
     refine AL.q (by exact h_pure en_valuesOf rfl rfl (by repeat (first | exact rfl | exact DLead.same | refine ⟨_, _, rfl, ?_, ?_⟩)) hVk rfl) rfl ?_
     refine AL.p (by exact mv5 rfl) rfl ?_
     refine AL.p (by exact g_extract (r := .d _) rfl rfl) rfl ?_
     refine AL.p (by exact g_extract (r := .d _) rfl rfl) rfl ?_
     refine za ?_
     refine za ?_
     refine AL.nil (th_n (AC.seq (AC.seq (AC.region ?_))))
     refine zm ?_
     refine AL.p (by exact g_not rfl) rfl ?_
     refine AL.nil (th_n ?_)
     refine AC.condB rfl (fun h3 => ?_) (fun h3 => ?_)
     ·refine AC.seq (AC.region ?_)
      refine AL.p (by exact g_build rfl rfl rfl) rfl ?_
      refine zs ?_
      refine za ?_
      refine AL.nil (th_n (AC.ret (th_r (ib_r (th_r (th_r (ib_r (th_r (bq_r ?_)))))))))
      have hb1 : b = true := by simpa using ‹(!!b) = true›
      have e : R = (⟨[], [], []⟩, false) := hR.trans (if_neg fun q => by have := hz.1 q.2.1 k hk1; rw [← hb, hb1] at this; cases this)
      exact ret0 rfl (by rw [e]; show AV.leads _ (.tup [sgA ⟨[], [], []⟩, aT false]) _; repeat (first | exact DLead.same | exact DLead.nil | exact rfl | refine ⟨_, rfl, ?_⟩ | refine ⟨_, _, rfl, ?_, ?_⟩))
     ·refine AC.skip (th_n (AC.seq ?_))
      have hb0 : b = false := by simpa using ‹(!!b) = false›
      obtain ⟨hBl, hBg⟩ := hck hb0
      refine AC.region ?_
      refine zm ?_
      refine AL.p (by exact g_len_view (k := x.marks.length) rfl rfl (by unfold byteEls; rw [List.length_map, hBl])) rfl ?_
      refine zm ?_
      refine AL.nil (th_n (AC.block ?_))
      refine AC.loop (ι := Nat) (fun i => ⟨76, 900, [(1, .d (.ref (stgD s))), (2, .ptr 202 0), (4, .ptr 201 0), (6, .ptr 203 0), (39, aI s.sigs.length), (40, aI k), (56, .d (.view 5 1 (byteEls B.1))), (57, aI x.marks.length), (58, aI i)], [(201, some (.cells 35 (rgC x))), (202, some (.cells 68 zSG)), (203, some (.cells 68 [.d (vSigs s.sigs), .own 100 x.marks.length, .d (vArs A)])), (100, some (.arr 9 1 (tsX (mixC s x k i))))]⟩) (fun i => i ≤ x.marks.length) (fun i => x.marks.length - i) (0) ?_ (Nat.zero_le _) ?_
      ·exact zw [(201, 201), (202, 202), (203, 203), (100, 100)] hC
      ·intro i hi
       refine AC.seq (AC.region ?_)
       refine zc ?_
       refine AL.nil (th_n (AC.seq ?_))
       refine AC.condD rfl (fun h4 => ?_) (fun h4 => ?_)
       ·refine AC.skip (th_n (AC.seq (AC.block (AC.seq ?_))))
        have hi1 : i < x.marks.length := by omega
        have hgb : (byteEls B.1)[i]? = some [dB (colC s x k i)] := by rw [byteEls_get (by omega), hBg i hi1]
        have hrow := hgt k i hi1
        have hset := hst k i hi1
        have hcki := hcl k i
        obtain ⟨c, hc⟩ : ∃ c, c = colC s x k i := ⟨_, rfl⟩
        obtain ⟨w, hw⟩ : ∃ w, w = codeC s x k i := ⟨_, rfl⟩
        rw [← hc] at hgb hset
        rw [← hw] at hrow hset hcki
        refine AC.region ?_
        refine zm ?_
        refine AL.p (by exact g_ia_view (i := i) rfl rfl rfl rfl rfl rfl hgb) rfl ?_
        refine zr ?_
        refine za ?_
        refine za ?_
        refine AL.nil (th_n ?_)
        refine AC.drawn' mixed_ok [[], [0], [], [0,1,2], [0,1,2,3], [], [5], [5,6], [0,1,2,3,4,5,6,7], [0,1,2,3,4,5,6,7,8], [0,1,2,3,4,5,6,7,8,9]] (by decide) ?_
        refine DF.op 0 [] 11 rfl rfl rfl (.free rfl (NOp.of (by exact g_fa_ptr rfl rfl rfl rfl rfl))) rfl ?_
        refine DF.op 1 [0] 11 rfl rfl rfl (.free rfl (NOp.of (by exact g_load_ptr rfl rfl rfl rfl rfl))) rfl ?_
        refine DF.op 2 [] 11 rfl rfl rfl (.free rfl (NOp.of (by exact mv1 rfl))) rfl ?_
        refine DF.op 3 [0,1,2] 11 rfl rfl rfl (.free rfl (NOp.of (by exact g_ia_own (i := i) (l := x.marks.length) rfl rfl rfl rfl rfl rfl hi1 rfl))) rfl ?_
        refine DF.op 4 [0,1,2,3] 11 rfl rfl rfl (.free rfl (NOp.of (by exact g_load_arr1 rfl rfl rfl rfl (by rw [Nat.mul_one]; exact hrow)))) rfl ?_
        refine DF.op 5 [] 11 rfl rfl rfl (.free rfl (NOp.of (by exact mv1 rfl))) rfl ?_
        refine DF.op 6 [5] 11 rfl rfl rfl (.free rfl (by exact h_lit rfl rfl rfl rfl rfl rfl rfl rfl)) rfl ?_
        refine DF.op 7 [5,6] 11 rfl rfl rfl (.free rfl (NOp.of (by exact g_strOfBytes (l := [c]) rfl rfl rfl rfl rfl rfl rfl))) rfl ?_
        refine DF.op 8 [0,1,2,3,4,5,6,7] 11 rfl rfl rfl (.free rfl (NOp.of (by exact g_sadd rfl rfl (by simp only [ByteArray.size_append, bstr_size, List.length_cons, List.length_nil]; omega)))) rfl ?_
        refine DF.op 9 (List.range 9) 11 rfl rfl rfl (.free rfl (NOp.of (by exact g_ia_own (i := i) (l := x.marks.length) rfl rfl rfl rfl rfl rfl hi1 rfl))) rfl ?_
        refine DF.op 10 (List.range 10) 11 rfl rfl rfl (.free rfl (by exact h_store_arr (i := i) (j := 0) (d := dS (bstr w ++ bstr [c])) rfl rfl rfl rfl .same rfl hrow (by decide))) rfl ?_
        refine DF.fin (ps := [(0,2),(0,5),(0,6),(0,7),(1,2),(1,5),(1,6),(1,7),(2,0),(2,1),(2,5),(2,6),(2,7),(3,5),(3,6),(3,7),(4,5),(4,6),(4,7),(5,0),(5,1),(5,2),(5,3),(5,4),(6,0),(6,1),(6,2),(6,3),(6,4),(7,0),(7,1),(7,2),(7,3),(7,4)]) 11 rfl (by decide +kernel) (by decide +kernel) (by rfl) ?_
        refine ib_n (th_n (AC.region ?_))
        refine zA ?_
        refine zm ?_
        refine AL.nil (th_n ?_)
        exact ⟨i + 1, by omega, by omega, zw [(201, 201), (202, 202), (203, 203), (100, 100)] hC (b := by rw [← hset]; repeat (first | exact True.intro | refine And.intro ?_ ?_ | exact DLead.same | exact rfl | refine ⟨_, _, rfl, rfl, ?_⟩ | refine ⟨_, rfl, ?_⟩ | refine ⟨_, _, rfl, ?_, ?_⟩))⟩
       ·refine AC.exit (th_e (th_e (ib_y (ib_n (th_n (AC.region ?_))))))
        refine zA ?_
        refine zm ?_
        refine AL.nil (th_n ?_)
        have hii : i = x.marks.length := by omega
        exact ⟨k + 1, ⟨by omega, fun j hj => by rcases Nat.lt_succ_iff_lt_or_eq.1 hj with h | rfl; exact hfine j h; rw [← hb, hb0]⟩, by omega, zw [(201, 201), (202, 202), (203, 203), (100, 100)] hC (b := by rw [← hnx, ← hii]; repeat (first | exact True.intro | refine And.intro ?_ ?_ | exact DLead.same | exact rfl | refine ⟨_, _, rfl, rfl, ?_⟩ | refine ⟨_, rfl, ?_⟩ | refine ⟨_, _, rfl, ?_, ?_⟩))⟩
    ·refine AC.exit (th_e (th_e (ib_y (th_n (AC.seq ?_)))))
     have hkk : k = s.sigs.length := by omega
     have e : R = (⟨s.sigs, mixC s x s.sigs.length 0, A⟩, true) := hR.trans (if_pos ⟨hok, hz.2 (by rw [← hkk]; exact hfine), hmv⟩)
     rw [hkk]
     refine AC.weak (Weak.freezeP (els' := tsX (mixC s x s.sigs.length 0)) 6 1 rfl rfl rfl rfl (by rw [tsX_len, hml]; exact Nat.le_refl _) (List.take_of_length_le (by rw [tsX_len, hml]; exact Nat.le_refl _)) rfl) ?_
     refine AC.region ?_
     refine AL.p (by exact g_load_ptrN rfl rfl rfl rfl rfl) rfl ?_
     refine zs ?_
     refine za ?_
     refine AL.nil (th_n (AC.ret (bq_r ?_)))
     exact ret0 rfl (by rw [e]; show AV.leads _ (.tup [sgA ⟨s.sigs, mixC s x s.sigs.length 0, A⟩, aT true]) _; repeat (first | exact DLead.same | exact rfl | refine ⟨_, rfl, ?_⟩ | refine ⟨_, _, rfl, ?_, ?_⟩))
theorem en_iBuild : Enters Tryz.prog 43 := enters_of Tryz.func43 rfl rfl
theorem cut1 {c : List UInt8} {i : Nat} (h : i < c.length) : (bstr c).extract i (i + 1) = bstr [c.getD i 0] := by
 rw [bstr_cut c (Nat.le_succ _) (by omega)]
 congr 1
 rw [List.take_add_one, List.drop_append, List.drop_of_length_le (by rw [List.length_take]; omega), List.nil_append, List.getElem?_eq_getElem h, List.length_take, Nat.min_eq_left (Nat.le_of_lt h), Nat.sub_self, List.drop_zero, List.getD_eq_getElem?_getD, List.getElem?_eq_getElem h]; rfl
theorem one63 {v : UInt8} : bstr [v] = bstr [63] ↔ v = 63 := by
 constructor
 ·intro h
  have := bstr_inj h
  simpa using this
 ·rintro rfl; rfl
theorem valS_col {s : Stg} {x : Ex} {k : Nat} (hL : ∀ a, a ∈ arcsOf s x → ArIn x.marks.length a) (h : clB s x k = false) : (valS (k : Int) (arcsOf s x) x.marks.length).1.length = x.marks.length ∧ ∀ i, i < x.marks.length → ((valS (k : Int) (arcsOf s x) x.marks.length).1.getD i 0 = 63 → colC s x k i = 48) ∧ (¬ (valS (k : Int) (arcsOf s x) x.marks.length).1.getD i 0 = 63 → colC s x k i = (valS (k : Int) (arcsOf s x) x.marks.length).1.getD i 0) := by
 unfold clB at h
 unfold valS colC
 cases hv : valF (k : Int) (arcsOf s x) x.marks.length with
 | none => rw [hv] at h; cases h
 | some V =>
  have hl := valF_len hL hv
  refine ⟨by simp [encS_len, hl], fun i hi => ?_⟩
  show ((encS V).getD i 0 = 63 → chB (vAt V i) = 48) ∧ (¬ (encS V).getD i 0 = 63 → chB (vAt V i) = (encS V).getD i 0)
  have e : (encS V).getD i 0 = encR (vAt V i) := by
   unfold encS
   rw [List.getD_eq_getElem?_getD, List.getElem?_map, List.getElem?_eq_getElem (by omega), vAt_get (by omega)]; rfl
  rw [e]
  cases vAt V i with
  | none => exact ⟨fun _ => rfl, fun q => absurd rfl q⟩
  | some b => cases b <;> exact ⟨fun q => absurd q (by decide), fun _ => rfl⟩
set_option maxHeartbeats 16000000 in
theorem sBuild_spec (s : Stg) (hB : StgB s) : ASpec Tryz.prog 44 [stgA s] [] (Fun1 (.tup [.agg [.d (vSigs (codeS s).1.sigs), .own 0 (codeS s).1.codes.length, .own 1 (codeS s).1.arcs.length], aT (codeS s).2]) [(0, .arr 9 1 (tsX (codeS s).1.codes)), (1, .arr 75 4 (arL (codeS s).1.arcs))]) := by
 have hX := sExplore_spec s hB
 have hXi := explS_in s
 have hR : codeS s = if (explS s).2 = true ∧ (clL s (explS s).1 s.sigs.length).length = 0 ∧ (explS s).1.moves.length ≤ 4000 then (⟨s.sigs, mixC s (explS s).1 s.sigs.length 0, arcsOf s (explS s).1⟩, true) else (⟨[], [], []⟩, false) := rfl
 have hI : (explS s).2 = true → CodI s (explS s).1 := codI
 obtain ⟨R, hRR⟩ : ∃ R, R = codeS s := ⟨_, rfl⟩
 rw [← hRR] at hR ⊢
 obtain ⟨X, hXX⟩ : ∃ X, X = explS s := ⟨_, rfl⟩
 rw [← hXX] at hX hXi hR hI
 clear hXX hRR
 obtain ⟨x, ok⟩ := X
 dsimp only at hX hXi hR hI
 have hsg := hB.sg
 have hm0 := mixC_zero s x
 have hml := mixC_len s x
 have hgt := fun (k i : Nat) (h : i < x.marks.length) => mixC_get (s := s) (k := k) h
 have hst := fun (k i : Nat) (h : i < x.marks.length) => mixC_set (s := s) (k := k) h
 have hnx := mixC_next s x
 have hcl := fun k i => codeC_len s x k i
 have hz : (clL s x s.sigs.length).length = 0 ↔ ∀ k, k < s.sigs.length → clB s x k = false := clL_zero
 have hzl := clL_len s x s.sigs.length
 have hCl := fun h : ok = true => l5Clash_spec s x hsg (hI h)
 refine ASpec.of Tryz.func44 rfl rfl fun C hC => ?_
 refine AC.seq (AC.region ?_)
 refine AL.q (by exact h_boxF rfl rfl) rfl ?_
 refine AL.q (by exact h_alloc rfl) rfl ?_
 refine za ?_
 refine AL.nil (th_n (AC.seq (AC.region ?_)))
 refine AL.p (by exact g_load_refN rfl rfl rfl rfl) rfl ?_
 refine AL.q (by exact h_fun (cs := []) en_sExplore rfl rfl (by repeat (first | exact rfl | exact DLead.same | refine ⟨_, _, rfl, ?_, ?_⟩ | refine ⟨_, rfl, ?_⟩)) (by repeat (exact True.intro)) hX rfl rfl rfl rfl) rfl ?_
 refine AL.p (by exact mv5 rfl) rfl ?_
 refine AL.p (by exact g_extract (r := .agg _) rfl rfl) rfl ?_
 refine AL.p (by exact g_extract (r := .d _) rfl rfl) rfl ?_
 refine AL.q (by exact h_alloc rfl) rfl ?_
 refine zs ?_
 refine za ?_
 refine AL.nil (th_n (AC.seq (AC.seq ?_)))
 refine AC.weak (Weak.freezeP (els' := tsX x.marks) 4 0 rfl rfl rfl rfl (by rw [tsX_len]; exact Nat.le_refl _) (List.take_of_length_le (by rw [tsX_len]; exact Nat.le_refl _)) rfl) ?_
 refine AC.weak (Weak.freezeP (els' := mvL x.moves) 4 1 rfl rfl rfl rfl (by rw [mvL_len]; exact Nat.le_refl _) (List.take_of_length_le (by rw [mvL_len]; exact Nat.le_refl _)) rfl) ?_
 refine AC.weak (t := ⟨110, 400, [(1, .d (.ref (stgD s))), (2, .ptr 202 0), (3, aT false), (4, .ptr 201 0), (5, aT ok)], [(201, some (.cells 35 (rgC x))), (202, some (.cells 68 zSG))]⟩) (zw [(201, _), (202, _)] hC) ?_
 refine AC.region ?_
 refine zm ?_
 refine AL.p (by exact g_not rfl) rfl ?_
 refine zm ?_
 refine AL.caseGB rfl rfl (fun h0 => ?_) (fun h0 => ?_)
 ·refine zn ?_
  refine zn ?_
  refine zn ?_
  refine zn ?_
  refine zn ?_
  refine zQ ?_
  refine zm ?_
  refine zn ?_
  refine zn ?_
  refine zn ?_
  refine zn ?_
  refine zQ ?_
  refine AL.nil (th_n ?_)
  refine AC.condT rfl ?_
  refine AC.seq (AC.region ?_)
  refine AL.p (by exact g_build rfl rfl rfl) rfl ?_
  refine zs ?_
  refine za ?_
  refine AL.nil (th_n ?_)
  refine AC.weak ((Weak.nilOwnP 2 1 (e := 9) (sz := 1) rfl rfl rfl rfl rfl).trans (Weak.nilOwnP 2 2 (e := 75) (sz := 4) rfl rfl rfl rfl rfl)) ?_
  refine AC.ret (th_r (bq_r ?_))
  have e : R = (⟨[], [], []⟩, false) := hR.trans (if_neg fun q => by have q1 := q.1; have q2 := q.2.1; have q3 := q.2.2; simp_all)
  exact retN [(0, _), (1, _)] rfl (by rw [e]; show AV.leads _ (.tup [.agg [.d (vSigs []), .own 0 0, .own 1 0], aT false]) _; repeat (first | exact DLead.same | exact DLead.nil | exact rfl | refine ⟨_, rfl, ?_⟩ | refine ⟨_, _, rfl, ?_, ?_⟩)) (by rw [e]; repeat (first | exact True.intro | refine And.intro ?_ ?_ | exact rfl | refine ⟨_, _, rfl, rfl, ?_⟩)) rfl rfl
 ·refine zy ?_
  refine AL.p (by exact g_load_refN rfl rfl rfl rfl) rfl ?_
  refine zy ?_
  refine AL.p (by exact g_load_ptrN rfl rfl rfl rfl rfl) rfl ?_
  refine zy ?_
  refine AL.q (by exact h_pure en_l5Clash rfl rfl (by repeat (first | exact rfl | exact DLead.same | refine ⟨_, _, rfl, ?_, ?_⟩ | refine ⟨_, rfl, ?_⟩)) (hCl (by simp_all)) rfl) rfl ?_
  refine zy ?_
  refine AL.p (by exact g_len_view (k := (clL s x s.sigs.length).length) rfl rfl (ints_len _)) rfl ?_
  refine zy ?_
  refine zc ?_
  refine zP ?_
  refine zm ?_
  refine AL.caseG rfl rfl (fun h1 => ?_) (fun h1 => ?_)
  ·refine zn ?_
   refine zn ?_
   refine zn ?_
   refine zn ?_
   refine zQ ?_
   refine AL.nil (th_n ?_)
   refine AC.condT rfl ?_
   refine AC.seq (AC.region ?_)
   refine AL.p (by exact g_build rfl rfl rfl) rfl ?_
   refine zs ?_
   refine za ?_
   refine AL.nil (th_n ?_)
   refine AC.weak ((Weak.nilOwnP 2 1 (e := 9) (sz := 1) rfl rfl rfl rfl rfl).trans (Weak.nilOwnP 2 2 (e := 75) (sz := 4) rfl rfl rfl rfl rfl)) ?_
   refine AC.ret (th_r (bq_r ?_))
   have e : R = (⟨[], [], []⟩, false) := hR.trans (if_neg fun q => by have q1 := q.1; have q2 := q.2.1; have q3 := q.2.2; (have := ‹((clL s x s.sigs.length).length : Int) > 0›; omega))
   exact retN [(0, _), (1, _)] rfl (by rw [e]; show AV.leads _ (.tup [.agg [.d (vSigs []), .own 0 0, .own 1 0], aT false]) _; repeat (first | exact DLead.same | exact DLead.nil | exact rfl | refine ⟨_, rfl, ?_⟩ | refine ⟨_, _, rfl, ?_, ?_⟩)) (by rw [e]; repeat (first | exact True.intro | refine And.intro ?_ ?_ | exact rfl | refine ⟨_, _, rfl, rfl, ?_⟩)) rfl rfl
  ·refine zy ?_
   refine zF ?_
   refine zy ?_
   refine zl ?_
   refine zy ?_
   refine AL.p (by exact g_len_view (k := x.moves.length) rfl rfl (mvL_len _)) rfl ?_
   refine zy ?_
   refine zc ?_
   refine zP ?_
   refine AL.nil (th_n ?_)
   refine AC.condD rfl (fun h2 => ?_) (fun h2 => ?_)
   ·refine AC.seq (AC.region ?_)
    refine AL.p (by exact g_build rfl rfl rfl) rfl ?_
    refine zs ?_
    refine za ?_
    refine AL.nil (th_n ?_)
    refine AC.weak ((Weak.nilOwnP 2 1 (e := 9) (sz := 1) rfl rfl rfl rfl rfl).trans (Weak.nilOwnP 2 2 (e := 75) (sz := 4) rfl rfl rfl rfl rfl)) ?_
    refine AC.ret (th_r (bq_r ?_))
    have e : R = (⟨[], [], []⟩, false) := hR.trans (if_neg fun q => by have q1 := q.1; have q2 := q.2.1; have q3 := q.2.2; (have := ‹(x.moves.length : Int) > 4000›; omega))
    exact retN [(0, _), (1, _)] rfl (by rw [e]; show AV.leads _ (.tup [.agg [.d (vSigs []), .own 0 0, .own 1 0], aT false]) _; repeat (first | exact DLead.same | exact DLead.nil | exact rfl | refine ⟨_, rfl, ?_⟩ | refine ⟨_, _, rfl, ?_, ?_⟩)) (by rw [e]; repeat (first | exact True.intro | refine And.intro ?_ ?_ | exact rfl | refine ⟨_, _, rfl, rfl, ?_⟩)) rfl rfl
   ·refine AC.skip (th_n (AC.seq ?_))
    have hok : ok = true := by simp_all
    have hmv : x.moves.length ≤ 4000 := by have := ‹¬ (x.moves.length : Int) > 4000›; omega
    have hc0 : (clL s x s.sigs.length).length = 0 := by have := ‹¬ ((clL s x s.sigs.length).length : Int) > 0›; omega
    have hfine := hz.1 hc0
    have hx := hI hok
    have hV := fun k : Nat => l5Values_spec s x k hx.n1 (by omega) (by omega) hx.b hx.a
    have hcol := fun (k : Nat) (h : clB s x k = false) => valS_col hx.a h
    have hAl := arcsOf_len s x
    have hat := fun j (hj : j < x.moves.length) => arcsOf_take (s := s) hj
    have hbb := hx.b
    have e : R = (⟨s.sigs, mixC s x s.sigs.length 0, arcsOf s x⟩, true) := hR.trans (if_pos ⟨hok, hc0, hmv⟩)
    obtain ⟨A, hA⟩ : ∃ A, A = arcsOf s x := ⟨_, rfl⟩
    simp only [← hA] at e hV hcol hAl hat
    clear hR hI hX hCl hz hx hA
    refine AC.drawn' mixed_ok [[], [], [1], [0,1,2], [], [4], [4,5], [4,5,6], [0,1,2,3,4,5,6,7], [], [0,1,2,3,4,5,6,7,8,9]] (by decide) ?_
    refine DF.op 0 [] 11 rfl rfl rfl (.free rfl (by exact h_lit rfl rfl rfl rfl rfl rfl rfl rfl)) rfl ?_
    refine DF.op 1 [] 11 rfl rfl rfl (.free rfl (NOp.of (by exact g_fa_ref rfl rfl rfl rfl rfl rfl))) rfl ?_
    refine DF.op 2 [1] 11 rfl rfl rfl (.free rfl (NOp.of (by exact g_load_ref rfl rfl rfl))) rfl ?_
    refine DF.op 3 [0,1,2] 11 rfl rfl rfl (.free rfl (by exact h_appendSg [] s.sigs (.own rfl rfl rfl) (.view rfl) (by simp; omega) (by simp))) rfl ?_
    refine DF.op 4 [] 11 rfl rfl rfl (.free rfl (NOp.of (by exact g_fa_ptr rfl rfl rfl rfl rfl))) rfl ?_
    refine DF.op 5 [4] 11 rfl rfl rfl (.free rfl (NOp.of (by exact g_load_ptr rfl rfl rfl rfl rfl))) rfl ?_
    refine DF.op 6 [4,5] 11 rfl rfl rfl (.free rfl (NOp.of (by exact g_len_view (k := x.marks.length) rfl rfl (tsX_len _)))) rfl ?_
    refine DF.op 7 [4,5,6] 11 rfl rfl rfl (.free rfl (by exact h_make (k := x.marks.length) rfl rfl rfl rfl rfl rfl rfl rfl (by show 16 * x.marks.length ≤ _; omega) (by omega))) rfl ?_
    refine DF.op 8 [0,1,2,3,4,5,6,7] 11 rfl rfl rfl (.free rfl (NOp.of (by exact g_build rfl rfl rfl))) rfl ?_
    refine DF.op 9 [] 11 rfl rfl rfl (.free rfl (by exact h_alloc rfl)) rfl ?_
    refine DF.op 10 (List.range 10) 11 rfl rfl rfl (.free rfl (by exact h_store rfl rfl rfl rfl rfl rfl)) rfl ?_
    refine DF.fin (ps := [(0,1),(0,2),(0,4),(0,5),(0,6),(0,7),(0,9),(1,0),(1,4),(1,5),(1,6),(1,7),(1,9),(2,0),(2,4),(2,5),(2,6),(2,7),(2,9),(3,4),(3,5),(3,6),(3,7),(3,9),(4,0),(4,1),(4,2),(4,3),(4,9),(5,0),(5,1),(5,2),(5,3),(5,9),(6,0),(6,1),(6,2),(6,3),(6,9),(7,0),(7,1),(7,2),(7,3),(7,9),(8,9),(9,0),(9,1),(9,2),(9,3),(9,4),(9,5),(9,6),(9,7),(9,8)]) 11 rfl (by decide +kernel) (by decide +kernel) (by rfl) ?_
    refine th_n (AC.seq (AC.seq ?_))
    refine AC.weak (Weak.freezeP (els' := sigsL s.sigs) 6 0 rfl rfl rfl rfl (Nat.le_of_eq (sigsL_len _).symm) (List.take_of_length_le (Nat.le_of_eq (sigsL_len _))) rfl) ?_
    refine AC.region ?_
    refine zf ?_
    refine zr ?_
    refine AL.p (by exact g_len_view (k := s.sigs.length) rfl rfl (sigsL_len _)) rfl ?_
    refine zm ?_
    refine AL.nil (th_n (AC.block ?_))
    refine AC.loop (ι := Nat) (fun k => ⟨110, 600, [(1, .d (.ref (stgD s))), (2, .ptr 202 0), (4, .ptr 201 0), (6, .ptr 203 0), (47, aI s.sigs.length), (48, aI k)], [(201, some (.cells 35 (rgC x))), (202, some (.cells 68 zSG)), (203, some (.cells 68 [.d (vSigs s.sigs), .own 100 x.marks.length, .d (.val (.slice none 0 0))])), (100, some (.arr 9 1 (tsX (mixC s x k 0))))]⟩) (fun k => k ≤ s.sigs.length) (fun k => s.sigs.length - k) (0) ?_ (Nat.zero_le _) ?_
    ·exact zw [(201, _), (202, _), (203, _), (100, _)] hC (b := by rw [hm0]; repeat (first | exact True.intro | refine And.intro ?_ ?_ | exact DLead.same | exact rfl | refine ⟨_, _, rfl, rfl, ?_⟩ | refine ⟨_, rfl, ?_⟩ | refine ⟨_, _, rfl, ?_, ?_⟩))
    ·rintro k hk
     refine AC.seq (AC.region ?_)
     refine zc ?_
     refine AL.nil (th_n (AC.seq ?_))
     refine AC.condD rfl (fun h3 => ?_) (fun h3 => ?_)
     ·refine AC.skip (th_n (AC.seq (AC.block (AC.seq ?_))))
      have hk1 : k < s.sigs.length := by omega
      have hVk := hV k
      obtain ⟨hBl, hBg⟩ := hcol k (hfine k hk1)
      obtain ⟨B, hBB⟩ : ∃ B, B = valS (k : Int) A x.marks.length := ⟨_, rfl⟩
      rw [← hBB] at hVk hBl
      simp only [← hBB] at hBg
      clear hBB
      refine AC.region ?_
      refine zm ?_
      refine za ?_
      refine AL.nil (th_n (AC.seq (AC.region ?_)))
      refine AL.p (by exact g_load_refN rfl rfl rfl rfl) rfl ?_
      refine AL.p (by exact g_load_ptrN rfl rfl rfl rfl rfl) rfl ?_
      refine zm ?_
      refine AL.q (by exact h_pure en_l5Values rfl rfl (by repeat (first | exact rfl | exact DLead.same | refine ⟨_, _, rfl, ?_, ?_⟩ | refine ⟨_, rfl, ?_⟩)) hVk rfl) rfl ?_
      refine AL.p (by exact mv5 rfl) rfl ?_
      refine AL.p (by exact g_extract (r := .d _) rfl rfl) rfl ?_
      refine AL.p (by exact g_extract (r := .d _) rfl rfl) rfl ?_
      refine za ?_
      refine za ?_
      refine AL.nil (th_n (AC.seq (AC.region ?_)))
      refine zF ?_
      refine zl ?_
      refine AL.p (by exact g_len_own (sz := 1) (els := []) (e' := 0) rfl rfl (by simp only [maxLen]; omega)) rfl ?_
      refine zm ?_
      refine AL.nil (th_n (AC.block ?_))
      refine AC.loop (ι := Nat) (fun i => ⟨110, 900, [(1, .d (.ref (stgD s))), (2, .ptr 202 0), (4, .ptr 201 0), (6, .ptr 203 0), (8, aS (bstr B.1)), (47, aI s.sigs.length), (48, aI k), (60, aI x.marks.length), (61, aI i)], [(201, some (.cells 35 (rgC x))), (202, some (.cells 68 zSG)), (203, some (.cells 68 [.d (vSigs s.sigs), .own 100 x.marks.length, .d (.val (.slice none 0 0))])), (100, some (.arr 9 1 (tsX (mixC s x k i))))]⟩) (fun i => i ≤ x.marks.length) (fun i => x.marks.length - i) (0) ?_ (Nat.zero_le _) ?_
      ·exact zw [(201, 201), (202, 202), (203, 203), (100, 100)] hC
      ·intro i hi
       refine AC.seq (AC.region ?_)
       refine zc ?_
       refine AL.nil (th_n (AC.seq ?_))
       refine AC.condD rfl (fun h4 => ?_) (fun h4 => ?_)
       ·refine AC.skip (th_n (AC.seq (AC.block (AC.seq ?_))))
        have hi1 : i < x.marks.length := by omega
        have hcut := cut1 (c := B.1) (i := i) (by omega)
        have hgb := hBg i hi1
        have hrow := hgt k i hi1
        have hset := hst k i hi1
        have hcki := hcl k i
        have hsz : (bstr B.1).size = x.marks.length := by rw [bstr_size, hBl]
        obtain ⟨c, hc⟩ : ∃ c, c = colC s x k i := ⟨_, rfl⟩
        obtain ⟨w, hw⟩ : ∃ w, w = codeC s x k i := ⟨_, rfl⟩
        obtain ⟨v, hv⟩ : ∃ v, v = B.1.getD i 0 := ⟨_, rfl⟩
        rw [← hc, ← hv] at hgb
        rw [← hc] at hset
        rw [← hw] at hrow hset hcki
        rw [← hv] at hcut
        refine AC.region ?_
        refine zm ?_
        refine za ?_
        refine AL.nil (th_n (AC.seq (AC.region ?_)))
        refine zm ?_
        refine zm ?_
        refine zm ?_
        refine zA ?_
        refine AL.p (by exact g_slice_str (l := i) (h := i + 1) rfl rfl (.some rfl rfl) (.some rfl rfl) (Nat.le_succ _) (by omega) hcut) rfl ?_
        refine za ?_
        refine AL.nil (th_n ?_)
        refine AC.cut (fun (z : UInt8) => ⟨110, 1200, [(1, .d (.ref (stgD s))), (2, .ptr 202 0), (4, .ptr 201 0), (6, .ptr 203 0), (8, aS (bstr B.1)), (10, aI i), (11, aS (bstr [z])), (47, aI s.sigs.length), (48, aI k), (60, aI x.marks.length), (61, aI i)], [(201, some (.cells 35 (rgC x))), (202, some (.cells 68 zSG)), (203, some (.cells 68 [.d (vSigs s.sigs), .own 100 x.marks.length, .d (.val (.slice none 0 0))])), (100, some (.arr 9 1 (tsX (mixC s x k i))))]⟩) (fun z => z = c) ?_ ?_
        ·refine AC.seq (AC.region ?_)
         refine zm ?_
         refine AL.p (by exact g_scmp rfl rfl rfl) rfl ?_
         refine AL.nil (th_n ?_)
         refine AC.condD rfl (fun h5 => ?_) (fun h5 => ?_)
         ·refine AC.region ?_
          refine za ?_
          refine AL.nil (th_n ?_)
          (have q := ‹bstr [v] = bstr [63]›; exact ⟨48, (hgb.1 (one63.1 q)).symm, zw [(201, 201), (202, 202), (203, 203), (100, 100)] hC⟩)
         ·refine AC.skip (th_n ?_)
          (have q := ‹¬ bstr [v] = bstr [63]›; exact ⟨v, (hgb.2 fun g => q (one63.2 g)).symm, zw [(201, 201), (202, 202), (203, 203), (100, 100)] hC⟩)
        ·rintro z rfl
         refine AC.region ?_
         refine zF ?_
         refine zl ?_
         refine zm ?_
         refine AL.p (by exact g_ia_own (i := i) (l := x.marks.length) rfl rfl rfl rfl rfl rfl hi1 rfl) rfl ?_
         refine AL.p (by exact g_load_arr1 rfl rfl rfl rfl (by rw [Nat.mul_one]; exact hrow)) rfl ?_
         refine zm ?_
         refine AL.p (by exact g_sadd rfl rfl (by simp only [ByteArray.size_append, bstr_size, List.length_cons, List.length_nil]; omega)) rfl ?_
         refine AL.p (by exact g_ia_own (i := i) (l := x.marks.length) rfl rfl rfl rfl rfl rfl hi1 rfl) rfl ?_
         refine AL.q (by exact h_store_arr (i := i) (j := 0) (d := dS (bstr w ++ bstr [z])) rfl rfl rfl rfl .same rfl hrow (by decide)) rfl ?_
         refine AL.nil (ib_n (th_n (AC.region ?_)))
         refine zA ?_
         refine zm ?_
         refine AL.nil (th_n ?_)
         exact ⟨i + 1, by omega, by omega, zw [(201, 201), (202, 202), (203, 203), (100, 100)] hC (b := by rw [← hset]; repeat (first | exact True.intro | refine And.intro ?_ ?_ | exact DLead.same | exact rfl | refine ⟨_, _, rfl, rfl, ?_⟩ | refine ⟨_, rfl, ?_⟩ | refine ⟨_, _, rfl, ?_, ?_⟩))⟩
       ·refine AC.exit (th_e (th_e (ib_y (ib_n (th_n (AC.region ?_))))))
        refine zA ?_
        refine zm ?_
        refine AL.nil (th_n ?_)
        have hii : i = x.marks.length := by omega
        exact ⟨k + 1, by omega, by omega, zw [(201, 201), (202, 202), (203, 203), (100, 100)] hC (b := by rw [← hnx, ← hii]; repeat (first | exact True.intro | refine And.intro ?_ ?_ | exact DLead.same | exact rfl | refine ⟨_, _, rfl, rfl, ?_⟩ | refine ⟨_, rfl, ?_⟩ | refine ⟨_, _, rfl, ?_, ?_⟩))⟩
     ·refine AC.exit (th_e (th_e (ib_y (th_n (AC.seq (AC.seq ?_))))))
      have hkk : k = s.sigs.length := by omega
      rw [hkk]
      refine AC.region ?_
      refine zF ?_
      refine zl ?_
      refine AL.p (by exact g_len_view (k := x.moves.length) rfl rfl (mvL_len _)) rfl ?_
      refine zm ?_
      refine AL.nil (th_n (AC.block ?_))
      refine AC.loop (ι := Nat) (fun j => ⟨110, 900, [(1, .d (.ref (stgD s))), (2, .ptr 202 0), (6, .ptr 203 0), (82, .d (vMvs x.moves)), (83, aI x.moves.length), (84, aI j)], [(202, some (.cells 68 zSG)), (203, some (.cells 68 [.d (vSigs s.sigs), .own 100 x.marks.length, .own 101 j])), (100, some (.arr 9 1 (tsX (mixC s x s.sigs.length 0)))), (101, some (.arr 75 4 (arL (A.take j))))]⟩) (fun j => j ≤ x.moves.length) (fun j => x.moves.length - j) (0) ?_ (Nat.zero_le _) ?_
      ·exact (Weak.nilOwnP 6 2 (e := 75) (sz := 4) rfl rfl rfl rfl rfl).trans (zw [(202, 202), (203, 203), (100, 100), (101, _)] hC)
      ·intro j hj
       refine AC.seq (AC.region ?_)
       refine zc ?_
       refine AL.nil (th_n (AC.seq ?_))
       refine AC.condD rfl (fun h4 => ?_) (fun h4 => ?_)
       ·refine AC.skip (th_n (AC.seq (AC.block (AC.seq ?_))))
        have hj1 : j < x.moves.length := by omega
        have hget := mvL_get hj1
        have hbv := hbb _ (List.getElem_mem hj1)
        have hstj := hat j hj1
        have htl : (A.take j).length = j := by rw [List.length_take]; omega
        obtain ⟨v, hv⟩ : ∃ v, v = x.moves[j] := ⟨_, rfl⟩
        rw [← hv] at hget hbv hstj
        clear hv
        obtain ⟨t, ht⟩ : ∃ t, t = v.by_.toNat := ⟨_, rfl⟩
        have e1 : v.by_ = (t : Int) := by omega
        unfold arcOf at hstj
        rw [← ht] at hstj
        rw [e1] at hget
        have hlt : t < s.labs.length := by omega
        have hgl : (labsL s.labs)[t]? = some [dI (lAt s.labs t).sig, dT (lAt s.labs t).up] := by rw [lAt_nat hlt, List.getElem?_map, List.getElem?_eq_getElem hlt]; rfl
        obtain ⟨l, hl⟩ : ∃ l, l = lAt s.labs t := ⟨_, rfl⟩
        rw [← hl] at hstj hgl
        clear hl
        refine AC.region ?_
        refine AL.p (by exact g_ia_view rfl rfl rfl rfl rfl (by rfl) (by assumption)) rfl ?_
        refine AL.p (by exact g_load_refN rfl rfl rfl rfl) rfl ?_
        refine AL.q (by exact h_alloc rfl) rfl ?_
        refine zs ?_
        refine AL.nil (th_n (AC.seq (AC.region ?_)))
        refine zf ?_
        refine zr ?_
        refine zF ?_
        refine zl ?_
        refine AL.p (by exact g_ia_view (i := t) rfl rfl rfl rfl rfl rfl hgl) rfl ?_
        refine AL.p (by exact g_load_refN rfl rfl rfl rfl) rfl ?_
        refine AL.q (by exact h_alloc rfl) rfl ?_
        refine zs ?_
        refine AL.nil (th_n (AC.region ?_))
        refine zF ?_
        refine zl ?_
        refine zF ?_
        refine zl ?_
        refine zF ?_
        refine zl ?_
        refine zF ?_
        refine zl ?_
        refine zF ?_
        refine zl ?_
        refine AL.p (by exact g_build rfl rfl rfl) rfl ?_
        refine AL.q (by exact h_litF rfl rfl rfl rfl rfl rfl rfl rfl) rfl ?_
        refine AL.q (by exact h_appendAr (A.take j) [⟨v.from_, l.sig, l.up, v.to_⟩] (.own rfl rfl (by rw [arL_len, htl])) (.view rfl) (by rw [List.length_append, htl]; simp only [List.length_cons, List.length_nil]; omega) (by simp)) rfl ?_
        refine zF ?_
        refine zs ?_
        refine AL.nil (ib_n (th_n (AC.region ?_)))
        refine zA ?_
        refine zm ?_
        refine AL.nil (th_n ?_)
        exact ⟨j + 1, by omega, by omega, zw [(202, 202), (203, 203), (100, 100), (101, _)] hC (b := by rw [List.length_append, htl, hstj]; repeat (first | exact True.intro | refine And.intro ?_ ?_ | exact DLead.same | exact rfl | refine ⟨_, _, rfl, rfl, ?_⟩ | refine ⟨_, rfl, ?_⟩ | refine ⟨_, _, rfl, ?_, ?_⟩))⟩
       ·refine AC.exit (th_e (th_e (ib_y (th_n (AC.seq ?_)))))
        have hjj : j = x.moves.length := by omega
        rw [hjj, ← hAl, List.take_length]
        refine AC.region ?_
        refine AL.p (by exact g_load_ptrN rfl rfl rfl rfl rfl) rfl ?_
        refine zs ?_
        refine za ?_
        refine AL.nil (th_n (AC.ret (bq_r ?_)))
        exact retN [(0, 100), (1, 101)] rfl (by rw [e]; show AV.leads _ (.tup [.agg [.d (vSigs s.sigs), .own 0 (mixC s x s.sigs.length 0).length, .own 1 A.length], aT true]) _; rw [hml]; repeat (first | exact DLead.same | exact rfl | refine ⟨_, rfl, ?_⟩ | refine ⟨_, _, rfl, ?_, ?_⟩)) (by rw [e]; repeat (first | exact True.intro | refine And.intro ?_ ?_ | exact rfl | refine ⟨_, _, rfl, rfl, ?_⟩)) rfl rfl
theorem en_sBuild : Enters Tryz.prog 44 := enters_of Tryz.func44 rfl rfl
set_option maxHeartbeats 1000000 in
theorem l5Code_spec (m : List UInt8) (n : Int) (hm : m.length ≤ 2000000) : ASpec Tryz.prog 206 [aS (bstr m), aI n] [] (Pure1 (aT (bitsB m n))) := by
 have hsz := bstr_size m
 refine ASpec.of Tryz.func206 rfl rfl fun C hC => ?_
 refine AC.seq (AC.region ?_)
 refine za ?_
 refine AL.nil (th_n (AC.seq (AC.seq (AC.region ?_))))
 refine za ?_
 refine AL.nil (th_n (AC.block ?_))
 refine AC.loop (ι := Nat) (fun k => ⟨26, 0, [(0, aS (bstr m)), (1, aI n), (5, aI k)], []⟩) (fun k => k ≤ m.length ∧ ∀ j (hj : j < m.length), j < k → bit m[j] = true) (fun k => m.length - k) (0) ?_ (⟨Nat.zero_le _, fun j _ hj => by omega⟩) ?_
 ·refine Weak.ren _ [] hC rfl ?_ ?_ rfl rfl rfl <;> repeat (first | exact True.intro | refine And.intro ?_ ?_ | exact DLead.same)
 ·intro k ⟨hk, hall⟩
  refine AC.seq (AC.seq (AC.region ?_))
  refine zm ?_
  refine zm ?_
  refine AL.p (by exact g_len_str rfl rfl rfl) rfl ?_
  refine zc ?_
  refine AL.nil (th_n ?_)
  refine AC.condD rfl (fun h0 => ?_) (fun h0 => ?_)
  ·refine AC.skip (th_n (AC.seq (AC.block (AC.seq ?_))))
   have hk1 : k < m.length := by omega
   have hget := bstr_at hk1
   have hlt := m[k].toNat_lt
   refine AC.region ?_
   refine zm ?_
   refine zm ?_
   refine AL.p (by exact g_index rfl rfl rfl (by rfl) (by assumption)) rfl ?_
   refine zc ?_
   refine zm ?_
   refine AL.caseGN rfl rfl (fun h1 => ?_) (fun h1 => ?_)
   ·refine zy ?_
    refine zm ?_
    refine zy ?_
    refine zm ?_
    refine zy ?_
    refine AL.p (by exact g_index rfl rfl rfl (by rfl) (by assumption)) rfl ?_
    refine zy ?_
    refine zc ?_
    refine zQ ?_
    refine AL.nil (th_n ?_)
    refine AC.condND rfl (fun h2 => ?_) (fun h2 => ?_)
    ·refine AC.seq (AC.region ?_)
     refine za ?_
     refine AL.nil (th_n (AC.ret (ib_r (th_r (th_r (ib_r (th_r (bq_r ?_))))))))
     have hb : bit m[k] = false := by simp_all [bit]
     exact ret1 rfl (by rw [bitsB, not_bits hk1 hb]; rfl)
    ·refine AC.skip (ib_n (th_n (AC.region ?_)))
     refine zm ?_
     refine zA ?_
     refine za ?_
     refine AL.nil (th_n ?_)
     have hb : bit m[k] = true := by simp_all [bit]
     exact ⟨k + 1, ⟨by omega, fun j hj hj2 => by rcases Nat.lt_succ_iff_lt_or_eq.1 hj2 with h | rfl; exact hall j hj h; exact hb⟩, by omega, Weak.ren _ [] hC rfl (by repeat (first | exact True.intro | refine And.intro ?_ ?_ | exact DLead.same)) (by repeat (exact True.intro)) rfl rfl rfl⟩
   ·refine zn ?_
    refine zn ?_
    refine zn ?_
    refine zn ?_
    refine zP ?_
    refine AL.nil (th_n ?_)
    refine AC.condF rfl ?_
    refine AC.skip (ib_n (th_n (AC.region ?_)))
    refine zm ?_
    refine zA ?_
    refine za ?_
    refine AL.nil (th_n ?_)
    have hb : bit m[k] = true := by simp_all [bit]
    exact ⟨k + 1, ⟨by omega, fun j hj hj2 => by rcases Nat.lt_succ_iff_lt_or_eq.1 hj2 with h | rfl; exact hall j hj h; exact hb⟩, by omega, Weak.ren _ [] hC rfl (by repeat (first | exact True.intro | refine And.intro ?_ ?_ | exact DLead.same)) (by repeat (exact True.intro)) rfl rfl rfl⟩
  ·refine AC.exit (th_e (th_e (ib_y (th_n (AC.seq (AC.region ?_))))))
   refine zm ?_
   refine AL.p (by exact g_len_str rfl rfl rfl) rfl ?_
   refine zm ?_
   refine zc ?_
   refine za ?_
   refine AL.nil (th_n (AC.ret (bq_r ?_)))
   exact ret1 rfl (by rw [bitsB, all_bits (fun j hj => hall j hj (by omega)), hsz]; rfl)
theorem en_l5Code : Enters Tryz.prog 206 := enters_of Tryz.func206 rfl rfl
def fitB (a : Ar) (x y : UInt8) (i : Nat) : Bool := if (i : Int) = a.sig then !(decide ((x.toNat : Int) = 49) == a.up) && (decide ((y.toNat : Int) = 49) == a.up) else decide ((x.toNat : Int) = y.toNat)
def fitI (a : Ar) (x y : List UInt8) : Bool := (List.range x.length).all fun i => fitB a (x.getD i 0) (y.getD i 0) i
theorem fitI_no {a : Ar} {x y : List UInt8} {k : Nat} (hk : k < x.length) (h : fitB a (x.getD k 0) (y.getD k 0) k = false) : fitI a x y = false := List.all_eq_false.2 ⟨k, List.mem_range.2 hk, by rw [h]; decide⟩
theorem fitI_yes {a : Ar} {x y : List UInt8} (h : ∀ k, k < x.length → fitB a (x.getD k 0) (y.getD k 0) k = true) : fitI a x y = true := List.all_eq_true.2 fun k hk => h k (List.mem_range.1 hk)
theorem getD_bs {l : List UInt8} {k : Nat} (h : k < l.length) : (bstr l).data.toList[k]? = some (l.getD k 0) := by
 rw [bstr_data, List.getElem?_eq_getElem h, List.getD_eq_getElem?_getD, List.getElem?_eq_getElem h]; rfl
set_option maxHeartbeats 2000000 in
theorem fitsCodes_spec (a : Ar) (x y : List UInt8) (hx : x.length ≤ 2000000) (hxy : y.length = x.length) : ASpec Tryz.prog 141 [arA a, aS (bstr x), aS (bstr y)] [] (Pure1 (aT (fitI a x y))) := by
 have hsz := bstr_size x
 refine ASpec.of Tryz.func141 rfl rfl fun C hC => ?_
 refine AC.seq (AC.region ?_)
 refine AL.q (by exact h_boxF rfl rfl) rfl ?_
 refine za ?_
 refine AL.nil (th_n (AC.seq (AC.seq (AC.region ?_))))
 refine zm ?_
 refine AL.p (by exact g_len_str rfl rfl rfl) rfl ?_
 refine zm ?_
 refine AL.nil (th_n (AC.block ?_))
 refine AC.loop (ι := Nat) (fun k => ⟨43, 300, [(1, aS (bstr x)), (2, aS (bstr y)), (3, .d (.ref (arD a))), (9, aI x.length), (10, aI k)], []⟩) (fun k => k ≤ x.length ∧ ∀ j, j < k → fitB a (x.getD j 0) (y.getD j 0) j = true) (fun k => x.length - k) (0) ?_ (⟨Nat.zero_le _, fun j hj => absurd hj (Nat.not_lt_zero _)⟩) ?_
 ·refine Weak.ren _ [] hC rfl ?_ ?_ rfl rfl rfl <;> repeat (first | exact True.intro | refine And.intro ?_ ?_ | exact DLead.same)
 ·rintro k ⟨hk, hall⟩
  refine AC.seq (AC.region ?_)
  refine zc ?_
  refine AL.nil (th_n (AC.seq ?_))
  refine AC.condD rfl (fun h0 => ?_) (fun h0 => ?_)
  ·refine AC.skip (th_n (AC.seq (AC.block (AC.seq ?_))))
   have hk1 : k < x.length := by omega
   have hgx := getD_bs hk1
   have hgy := getD_bs (l := y) (k := k) (by omega)
   have hfn := fitI_no (a := a) (y := y) hk1
   have hfb : fitB a (x.getD k 0) (y.getD k 0) k = if (k : Int) = a.sig then !(decide (((x.getD k 0).toNat : Int) = 49) == a.up) && (decide (((y.getD k 0).toNat : Int) = 49) == a.up) else decide (((x.getD k 0).toNat : Int) = (y.getD k 0).toNat) := rfl
   obtain ⟨b, hb⟩ : ∃ b, b = x.getD k 0 := ⟨_, rfl⟩
   obtain ⟨c, hc⟩ : ∃ b, b = y.getD k 0 := ⟨_, rfl⟩
   have hnxt : fitB a b c k = true → ∀ j, j < k + 1 → fitB a (x.getD j 0) (y.getD j 0) j = true := fun q j hj => by rcases Nat.lt_succ_iff_lt_or_eq.1 hj with h | rfl; exact hall j h; rw [← hb, ← hc]; exact q
   rw [← hb] at hgx
   rw [← hc] at hgy
   rw [← hb, ← hc] at hfn hfb
   clear hb hc
   refine AC.region ?_
   refine zm ?_
   refine za ?_
   refine AL.nil (th_n (AC.block (AC.seq (AC.region ?_))))
   refine zm ?_
   refine zf ?_
   refine zr ?_
   refine zc ?_
   refine za ?_
   refine AL.nil (th_n ?_)
   refine AC.condND rfl (fun h1 => ?_) (fun h1 => ?_)
   ·refine AC.seq ?_
    refine AC.drawn' mixed_ok [[], [], [0,1], [], [], [3,4], [0,1,2,3,4,5]] (by decide) ?_
    refine DF.op 0 [] 7 rfl rfl rfl (.free rfl (NOp.of (by exact mv1 rfl))) rfl ?_
    refine DF.op 1 [] 7 rfl rfl rfl (.free rfl (NOp.of (by exact mv1 rfl))) rfl ?_
    refine DF.op 2 [0,1] 7 rfl rfl rfl (.free rfl (NOp.of (by exact g_index rfl rfl rfl (by rfl) (by assumption)))) rfl ?_
    refine DF.op 3 [] 7 rfl rfl rfl (.free rfl (NOp.of (by exact mv1 rfl))) rfl ?_
    refine DF.op 4 [] 7 rfl rfl rfl (.free rfl (NOp.of (by exact mv1 rfl))) rfl ?_
    refine DF.op 5 [3,4] 7 rfl rfl rfl (.free rfl (NOp.of (by exact g_index rfl rfl rfl (by rfl) (by assumption)))) rfl ?_
    refine DF.op 6 [0,1,2,3,4,5] 7 rfl rfl rfl (.free rfl (NOp.of (by exact g_cmp rfl rfl rfl))) rfl ?_
    refine DF.fin (ps := [(0,1),(0,3),(0,4),(0,5),(1,0),(1,3),(1,4),(1,5),(2,3),(2,4),(2,5),(3,0),(3,1),(3,2),(3,4),(4,0),(4,1),(4,2),(4,3),(5,0),(5,1),(5,2)]) 7 rfl (by decide +kernel) (by decide +kernel) (by rfl) ?_
    refine th_n ?_
    refine AC.condND rfl (fun h2 => ?_) (fun h2 => ?_)
    ·refine AC.seq (AC.region ?_)
     refine za ?_
     refine AL.nil (th_n (AC.ret (ib_r (ib_r (th_r (th_r (ib_r (th_r (bq_r ?_)))))))))
     exact ret1 rfl (by rw [hfn (by rw [hfb]; simp_all)])
    ·refine AC.skip (ib_n (ib_n (th_n (AC.region ?_))))
     refine zA ?_
     refine zm ?_
     refine AL.nil (th_n ?_)
     exact ⟨k + 1, ⟨by omega, hnxt (by rw [hfb]; simp_all)⟩, by omega, Weak.ren _ [] hC rfl (by repeat (first | exact True.intro | refine And.intro ?_ ?_ | exact DLead.same)) (by repeat (exact True.intro)) rfl rfl rfl⟩
   ·refine AC.seq ?_
    refine AC.drawn' mixed_ok [[], [], [0,1], [0,1,2], [], [4], [0,1,2,3,4,5], [0,1,2,3,4,5,6], [0,1,2,3,4,5,6,7], [0,1,2,3,4,5,6,7], [0,1,2,3,4,5,6,7,8,9], [0,1,2,3,4,5,6,7,8,9,10], [0,1,2,3,4,5,6,7], [0,1,2,3,4,5,6,7,12], [0,1,2,3,4,5,6,7,8,9,10,11,12,13], [0,1,2,3,4,5,6,7,8,9,10,11,12,13,14], [0,1,2,3,4,5,6,7,8,9,10,11,12,13,14,15]] (by decide) ?_
    refine DF.op 0 [] 17 rfl rfl rfl (.free rfl (NOp.of (by exact mv1 rfl))) rfl ?_
    refine DF.op 1 [] 17 rfl rfl rfl (.free rfl (NOp.of (by exact mv1 rfl))) rfl ?_
    refine DF.op 2 [0,1] 17 rfl rfl rfl (.free rfl (NOp.of (by exact g_index rfl rfl rfl (by rfl) (by assumption)))) rfl ?_
    refine DF.op 3 [0,1,2] 17 rfl rfl rfl (.free rfl (NOp.of (by exact g_cmp rfl rfl rfl))) rfl ?_
    refine DF.op 4 [] 17 rfl rfl rfl (.free rfl (NOp.of (by exact g_fa_ref rfl rfl rfl rfl rfl rfl))) rfl ?_
    refine DF.op 5 [4] 17 rfl rfl rfl (.free rfl (NOp.of (by exact g_load_ref rfl rfl rfl))) rfl ?_
    refine DF.op 6 [0,1,2,3,4,5] 17 rfl rfl rfl (.free rfl (NOp.of (by exact g_eqB rfl rfl rfl))) rfl ?_
    refine DF.op 7 [0,1,2,3,4,5,6] 17 rfl rfl rfl (.free rfl (NOp.of (by exact mv1 rfl))) rfl ?_
    refine DF.caseD 7 rfl (fun h2 => ?_) (fun h2 => ?_)
    ·refine DF.op (ids := []) 8 [0,1,2,3,4,5,6,7] 17 rfl rfl rfl (.no rfl rfl rfl rfl rfl rfl) rfl ?_
     refine DF.op (ids := []) 9 [0,1,2,3,4,5,6,7] 17 rfl rfl rfl (.no rfl rfl rfl rfl rfl rfl) rfl ?_
     refine DF.op (ids := []) 10 (List.range 10) 17 rfl rfl rfl (.no rfl rfl rfl rfl rfl rfl) rfl ?_
     refine DF.op (ids := []) 11 (List.range 11) 17 rfl rfl rfl (.no rfl rfl rfl rfl rfl rfl) rfl ?_
     refine DF.op (ids := []) 12 [0,1,2,3,4,5,6,7] 17 rfl rfl rfl (.no rfl rfl rfl rfl rfl rfl) rfl ?_
     refine DF.op (ids := []) 13 [0,1,2,3,4,5,6,7,12] 17 rfl rfl rfl (.no rfl rfl rfl rfl rfl rfl) rfl ?_
     refine DF.op (ids := []) 14 (List.range 14) 17 rfl rfl rfl (.no rfl rfl rfl rfl rfl rfl) rfl ?_
     refine DF.op 15 (List.range 15) 17 rfl rfl rfl (.free rfl (NOp.of (by exact g_pickT (r := .d _) rfl rfl))) rfl ?_
     refine DF.op 16 (List.range 16) 17 rfl rfl rfl (.free rfl (NOp.of (by exact as1 rfl))) rfl ?_
     refine DF.fin (ps := [(0,1),(0,4),(0,5),(1,0),(1,4),(1,5),(2,4),(2,5),(3,4),(3,5),(4,0),(4,1),(4,2),(4,3),(5,0),(5,1),(5,2),(5,3),(8,9),(8,12),(8,13),(9,8),(9,12),(9,13),(10,12),(10,13),(11,12),(11,13),(12,8),(12,9),(12,10),(12,11),(13,8),(13,9),(13,10),(13,11)]) 17 rfl (by decide +kernel) (by decide +kernel) (by rfl) ?_
     refine th_n ?_
     refine AC.condT rfl ?_
     refine AC.seq (AC.region ?_)
     refine za ?_
     refine AL.nil (th_n (AC.ret (ib_r (ib_r (th_r (th_r (ib_r (th_r (bq_r ?_)))))))))
     exact ret1 rfl (by rw [hfn (by rw [hfb]; simp_all)])
    ·refine DF.op 8 [0,1,2,3,4,5,6,7] 17 rfl rfl rfl (.yes rfl rfl rfl rfl (NOp.of (by exact mv1 rfl))) rfl ?_
     refine DF.op 9 [0,1,2,3,4,5,6,7] 17 rfl rfl rfl (.yes rfl rfl rfl rfl (NOp.of (by exact mv1 rfl))) rfl ?_
     refine DF.op 10 (List.range 10) 17 rfl rfl rfl (.yes rfl rfl rfl rfl (NOp.of (by exact g_index rfl rfl rfl (by rfl) (by assumption)))) rfl ?_
     refine DF.op 11 (List.range 11) 17 rfl rfl rfl (.yes rfl rfl rfl rfl (NOp.of (by exact g_cmp rfl rfl rfl))) rfl ?_
     refine DF.op 12 [0,1,2,3,4,5,6,7] 17 rfl rfl rfl (.yes rfl rfl rfl rfl (NOp.of (by exact g_fa_ref rfl rfl rfl rfl rfl rfl))) rfl ?_
     refine DF.op 13 [0,1,2,3,4,5,6,7,12] 17 rfl rfl rfl (.yes rfl rfl rfl rfl (NOp.of (by exact g_load_ref rfl rfl rfl))) rfl ?_
     refine DF.op 14 (List.range 14) 17 rfl rfl rfl (.yes rfl rfl rfl rfl (NOp.of (by exact g_neB rfl rfl rfl))) rfl ?_
     refine DF.op 15 (List.range 15) 17 rfl rfl rfl (.free rfl (NOp.of (by exact g_pickF (r := .d _) rfl rfl))) rfl ?_
     refine DF.op 16 (List.range 16) 17 rfl rfl rfl (.free rfl (NOp.of (by exact as1 rfl))) rfl ?_
     refine DF.fin (ps := [(0,1),(0,4),(0,5),(1,0),(1,4),(1,5),(2,4),(2,5),(3,4),(3,5),(4,0),(4,1),(4,2),(4,3),(5,0),(5,1),(5,2),(5,3),(8,9),(8,12),(8,13),(9,8),(9,12),(9,13),(10,12),(10,13),(11,12),(11,13),(12,8),(12,9),(12,10),(12,11),(13,8),(13,9),(13,10),(13,11)]) 17 rfl (by decide +kernel) (by decide +kernel) (by rfl) ?_
     refine th_n ?_
     refine AC.condND rfl (fun h3 => ?_) (fun h3 => ?_)
     ·refine AC.seq (AC.region ?_)
      refine za ?_
      refine AL.nil (th_n (AC.ret (ib_r (ib_r (th_r (th_r (ib_r (th_r (bq_r ?_)))))))))
      exact ret1 rfl (by rw [hfn (by rw [hfb]; simp_all)])
     ·refine AC.skip (ib_n (ib_n (th_n (AC.region ?_))))
      refine zA ?_
      refine zm ?_
      refine AL.nil (th_n ?_)
      exact ⟨k + 1, ⟨by omega, hnxt (by rw [hfb]; simp_all)⟩, by omega, Weak.ren _ [] hC rfl (by repeat (first | exact True.intro | refine And.intro ?_ ?_ | exact DLead.same)) (by repeat (exact True.intro)) rfl rfl rfl⟩
  ·refine AC.exit (th_e (th_e (ib_y (th_n (AC.seq (AC.region ?_))))))
   refine za ?_
   refine AL.nil (th_n (AC.ret (bq_r ?_)))
   exact ret1 rfl (by rw [fitI_yes fun j hj => hall j (by omega)])
theorem en_fitsCodes : Enters Tryz.prog 141 := enters_of Tryz.func141 rfl rfl
def arcE (L : List Ar) : List (Nat × Nat) := L.map fun a => (a.from_.toNat, a.to_.toNat)
theorem arcE_len (L : List Ar) : (arcE L).length = L.length := List.length_map _
theorem arcE_get {L : List Ar} {j : Nat} (h : j < L.length) : (arcE L)[j]'(by rw [arcE_len]; exact h) = (L[j].from_.toNat, L[j].to_.toNat) := by simp [arcE]
theorem arcE_take {L : List Ar} {k : Nat} (h : k < L.length) : (arcE L).take (k + 1) = (arcE L).take k ++ [(L[k].from_.toNat, L[k].to_.toNat)] := by
 rw [List.take_add_one, List.getElem?_eq_getElem (by rw [arcE_len]; exact h), arcE_get h]; rfl
theorem arcE_in {L : List Ar} {n : Nat} (h : ∀ a, a ∈ L → ArIn n a) : ∀ f t, (f, t) ∈ arcE L → f < n ∧ t < n := fun f t hm => by
 unfold arcE at hm
 obtain ⟨a, ha, he⟩ := List.mem_map.1 hm
 have := h a ha
 cases he
 unfold ArIn at this
 omega
set_option maxHeartbeats 2000000 in
theorem arcSteps_spec (L : List Ar) (hl : L.length ≤ 1000000) (hp : ∀ v, v ∈ L → 0 ≤ v.from_ ∧ 0 ≤ v.to_) : ASpec Tryz.prog 142 [.d (vArs L)] [] (Pure1 (.d (vSteps (arcE L)))) := by
 have hel := arcE_len L
 have hE := fun k (hk : k < L.length) => arcE_take hk
 obtain ⟨E, hEE⟩ : ∃ E, E = arcE L := ⟨_, rfl⟩
 simp only [← hEE] at hE hel ⊢
 clear hEE
 refine ASpec.of Tryz.func142 rfl rfl fun C hC => ?_
 refine AC.seq (AC.region ?_)
 refine za ?_
 refine AL.nil (th_n (AC.seq (AC.region ?_)))
 refine AL.q (by exact h_lit rfl rfl rfl rfl rfl rfl rfl rfl) rfl ?_
 refine AL.p (by exact as2 rfl) rfl ?_
 refine AL.nil (th_n (AC.seq (AC.seq (AC.region ?_))))
 refine zm ?_
 refine AL.p (by exact g_len_view (k := L.length) rfl rfl (arL_len _)) rfl ?_
 refine zm ?_
 refine AL.nil (th_n (AC.block ?_))
 refine AC.loop (ι := Nat) (fun j => ⟨23, 300, [(3, .own 100 j), (7, .d (vArs L)), (8, aI L.length), (9, aI j)], [(100, some (.arr 138 2 (stepL (E.take j))))]⟩) (fun j => j ≤ L.length) (fun j => L.length - j) (0) ?_ (Nat.zero_le _) ?_
 ·exact zw [(100, _)] hC
 ·intro j hj
  refine AC.seq (AC.region ?_)
  refine zc ?_
  refine AL.nil (th_n (AC.seq ?_))
  refine AC.condD rfl (fun h0 => ?_) (fun h0 => ?_)
  ·refine AC.skip (th_n (AC.seq (AC.block (AC.seq ?_))))
   have hj1 : j < L.length := by omega
   have hget := arL_get hj1
   have hpv := hp _ (List.getElem_mem hj1)
   have hEj := hE j hj1
   have htl : (E.take j).length = j := by rw [List.length_take]; omega
   obtain ⟨v, hv⟩ : ∃ v, v = L[j] := ⟨_, rfl⟩
   rw [← hv] at hget hpv hEj
   clear hv
   have e1 : v.from_ = ((v.from_.toNat : Nat) : Int) := by omega
   have e2 : v.to_ = ((v.to_.toNat : Nat) : Int) := by omega
   rw [e1, e2] at hget
   refine AC.region ?_
   refine AL.p (by exact g_ia_view rfl rfl rfl rfl rfl (by rfl) (by assumption)) rfl ?_
   refine AL.p (by exact g_load_refN rfl rfl rfl rfl) rfl ?_
   refine AL.q (by exact h_alloc rfl) rfl ?_
   refine zs ?_
   refine AL.nil (th_n (AC.region ?_))
   refine AL.p (by exact mv2 rfl) rfl ?_
   refine zF ?_
   refine zl ?_
   refine zF ?_
   refine zl ?_
   refine AL.p (by exact g_build rfl rfl rfl) rfl ?_
   refine AL.q (by exact h_litF rfl rfl rfl rfl rfl rfl rfl rfl) rfl ?_
   refine AL.q (by exact h_appendSt (E.take j) [(v.from_.toNat, v.to_.toNat)] (.own rfl rfl (by rw [stepL_len, htl])) (.view rfl) (by rw [List.length_append, htl]; simp only [List.length_cons, List.length_nil]; omega) (by simp)) rfl ?_
   refine AL.p (by exact as2 rfl) rfl ?_
   refine AL.nil (ib_n (th_n (AC.region ?_)))
   refine zA ?_
   refine zm ?_
   refine AL.nil (th_n ?_)
   exact ⟨j + 1, by omega, by omega, zw [(100, _)] hC (by rw [List.length_append, htl]; repeat (first | exact True.intro | refine And.intro ?_ ?_ | exact DLead.same | exact rfl | refine ⟨_, rfl, ?_⟩)) (by rw [hEj]; repeat (first | exact True.intro | refine And.intro ?_ ?_ | exact rfl | refine ⟨_, _, rfl, rfl, ?_⟩))⟩
  ·refine AC.exit (th_e (th_e (ib_y (th_n (AC.seq ?_)))))
   have hjj : j = L.length := by omega
   rw [hjj, ← hel, List.take_length]
   refine AC.weak (Weak.freeze (i := 3) rfl rfl (Nat.le_of_eq (stepL_len _).symm) (List.take_of_length_le (Nat.le_of_eq (stepL_len _)))) ?_
   refine AC.region ?_
   refine zm ?_
   refine za ?_
   refine AL.nil (th_n (AC.ret (bq_r ?_)))
   exact ret1 rfl rfl
theorem en_arcSteps : Enters Tryz.prog 142 := enters_of Tryz.func142 rfl rfl
theorem swapE_swap (E : List (Nat × Nat)) : swapE (swapE E) = E := by
 unfold swapE
 rw [List.map_map]
 exact List.map_id _
theorem swapE_get {E : List (Nat × Nat)} {j : Nat} (h : j < E.length) : (swapE E)[j]'(by rw [swapE_len]; exact h) = (E[j].2, E[j].1) := by simp [swapE]
theorem allU_no {o : List Int} {n v : Nat} (hv : v < n) (h : decide (0 ≤ oa o v) = false) : allU o n = false := by
 unfold allU
 exact List.all_eq_false.2 ⟨v, List.mem_range.2 hv, by rw [h]; decide⟩
theorem allU_yes {o : List Int} {n : Nat} (h : ∀ v, v < n → decide (0 ≤ oa o v) = true) : allU o n = true := by
 unfold allU
 exact List.all_eq_true.2 fun v hv => h v (List.mem_range.1 hv)
set_option maxHeartbeats 8000000 in
theorem l5All_spec (c : SG) (hn0 : 0 < c.codes.length) (h1l : c.codes.length ≤ 100000) (h2l : c.arcs.length ≤ 1000000) (hp : ∀ a, a ∈ c.arcs → ArIn c.codes.length a) : ASpec Tryz.prog 208 [sgA c] [] (Pure1 (aT (allU (distF (arcE c.arcs) c.codes.length 0) c.codes.length))) := by
 have hE := arcE_in hp
 have hsw := swapE_swap (arcE c.arcs)
 have hD := dist_ex hn0 hE
 have hle := fun v => (distF_le hn0 hE v).2
 obtain ⟨E', hE'⟩ : ∃ E', E' = swapE (arcE c.arcs) := ⟨_, rfl⟩
 rw [← hE'] at hsw
 have hD2 := hD
 rw [← hsw] at hD2
 have hB0 := BackI.start hn0 hD2
 rw [hsw] at hB0 hD2
 have hel : E'.length = c.arcs.length := by rw [hE', swapE_len, arcE_len]
 have hEg : ∀ j (hj : j < c.arcs.length), E'[j]'(by rw [hel]; exact hj) = (c.arcs[j].to_.toNat, c.arcs[j].from_.toNat) := fun j hj => by
  subst hE'
  rw [swapE_get (by rw [arcE_len]; exact hj), arcE_get hj]
 obtain ⟨n, hn⟩ : ∃ n, n = c.codes.length := ⟨_, rfl⟩
 rw [← hn] at hn0 h1l hB0 hp hD hD2 ⊢
 simp only [← hn] at hle
 obtain ⟨o, ho⟩ : ∃ o, o = distF (arcE c.arcs) n 0 := ⟨_, rfl⟩
 rw [← ho] at hB0 hD hD2 ⊢
 simp only [← ho] at hle
 have hD3 : DistOf (swapE E') n 0 o := by rw [hsw]; exact hD
 clear ho hE hE' hsw hD hD2
 refine ASpec.of Tryz.func208 rfl rfl fun C hC => ?_
 refine AC.seq (AC.region ?_)
 refine AL.q (by exact h_boxF rfl rfl) rfl ?_
 refine za ?_
 refine AL.nil (th_n (AC.seq (AC.region ?_)))
 refine zf ?_
 refine zr ?_
 refine AL.p (by exact g_len_view (k := n) rfl rfl (by rw [hn]; exact tsX_len _)) rfl ?_
 refine AL.q (by exact h_make (k := n) rfl rfl rfl rfl rfl rfl rfl rfl (by show 1 * n ≤ _; omega) (by omega)) rfl ?_
 rw [show (List.replicate n (([ZK.bool] : List ZK).map fun z => DV.val z.val)) = boolL (List.replicate n false) from boolL_rep n]
 have hr0 : (boolL (List.replicate n false))[0]? = some [dT (canAt (List.replicate n false) 0)] := boolL_get (by simpa using hn0)
 refine AL.p (by exact as2 rfl) rfl ?_
 refine AL.nil (th_n (AC.seq (AC.region ?_)))
 refine AL.p (by exact mv2 rfl) rfl ?_
 refine AL.p (by exact g_ia_own (i := 0) (l := n) rfl rfl rfl rfl rfl rfl hn0 rfl) rfl ?_
 refine AL.q (by exact h_store_arr (i := 0) (j := 0) (d := dT true) rfl rfl rfl rfl .same rfl hr0 (by decide)) rfl ?_
 refine AL.nil (th_n (AC.seq (AC.seq (AC.region ?_))))
 refine zf ?_
 refine zr ?_
 refine AL.p (by exact g_len_view (k := n) rfl rfl (by rw [hn]; exact tsX_len _)) rfl ?_
 refine zm ?_
 refine AL.nil (th_n (AC.block ?_))
 refine AC.loop (ι := List Bool × Nat) (fun y => ⟨46, 600, [(1, .d (.ref (sgD c))), (3, .own 100 n), (16, aI n), (17, aI y.2)], [(100, some (.arr 4 1 (boolL y.1)))]⟩) (fun y => BackI E' n 0 o y.1 y.2 0 ∧ y.2 ≤ n) (fun y => n - y.2) (((List.replicate n false).set 0 true, 0)) ?_ (⟨hB0, Nat.zero_le _⟩) ?_
 ·exact zw [(100, _)] hC (b := by rw [boolL_set]; repeat (first | exact True.intro | refine And.intro ?_ ?_ | exact rfl | refine ⟨_, _, rfl, rfl, ?_⟩))
 ·rintro ⟨d, r⟩ ⟨hB, hr⟩
  dsimp only at hB hr ⊢
  refine AC.seq (AC.region ?_)
  refine zc ?_
  refine AL.nil (th_n (AC.seq ?_))
  refine AC.condD rfl (fun h0 => ?_) (fun h0 => ?_)
  ·refine AC.skip (th_n (AC.seq (AC.block (AC.seq (AC.region ?_)))))
   refine zf ?_
   refine zr ?_
   refine AL.p (by exact g_len_view (k := c.arcs.length) rfl rfl (arL_len _)) rfl ?_
   refine zm ?_
   refine AL.nil (th_n (AC.block ?_))
   refine AC.loop (ι := List Bool × Nat) (fun y => ⟨46, 900, [(1, .d (.ref (sgD c))), (3, .own 100 n), (16, aI n), (17, aI r), (20, .d (vArs c.arcs)), (21, aI c.arcs.length), (22, aI y.2)], [(100, some (.arr 4 1 (boolL y.1)))]⟩) (fun y => BackI E' n 0 o y.1 r y.2 ∧ y.2 ≤ c.arcs.length) (fun y => c.arcs.length - y.2) ((d, 0)) ?_ (⟨hB, Nat.zero_le _⟩) ?_
   ·exact zw [(100, 100)] hC
   ·rintro ⟨d, j⟩ ⟨hB, hj⟩
    dsimp only at hB hj ⊢
    have hcl := hB.len
    refine AC.seq (AC.region ?_)
    refine zc ?_
    refine AL.nil (th_n (AC.seq ?_))
    refine AC.condD rfl (fun h1 => ?_) (fun h1 => ?_)
    ·refine AC.skip (th_n (AC.seq (AC.block (AC.seq ?_))))
     have hj1 : j < c.arcs.length := by omega
     have hjE : j < E'.length := by omega
     have hget := arL_get hj1
     have hpv := hp _ (List.getElem_mem hj1)
     have heg := hEg j hj1
     have hno := hB.no hjE
     have hye := hB.yes hD3 hjE
     rw [heg] at hno hye
     dsimp only at hno hye
     obtain ⟨v, hv⟩ : ∃ v, v = c.arcs[j] := ⟨_, rfl⟩
     rw [← hv] at hget hpv hno hye
     clear hv heg
     unfold ArIn at hpv
     obtain ⟨f, hf⟩ : ∃ f, f = v.from_.toNat := ⟨_, rfl⟩
     obtain ⟨t, ht⟩ : ∃ t, t = v.to_.toNat := ⟨_, rfl⟩
     rw [← hf] at hno
     rw [← hf, ← ht] at hye
     have e1 : v.from_ = (f : Int) := by omega
     have e2 : v.to_ = (t : Int) := by omega
     rw [e1, e2] at hget
     have hye2 := hye (by omega)
     have hct := boolL_get (c := d) (v := t) (by omega)
     have hcf := boolL_get (c := d) (v := f) (by omega)
     obtain ⟨b, hb⟩ : ∃ b, b = canAt d f := ⟨_, rfl⟩
     rw [← hb] at hno hye2 hcf
     clear hye hb
     refine AC.region ?_
     refine AL.p (by exact g_ia_view rfl rfl rfl rfl rfl (by rfl) (by assumption)) rfl ?_
     refine AL.p (by exact g_load_refN rfl rfl rfl rfl) rfl ?_
     refine AL.q (by exact h_alloc rfl) rfl ?_
     refine zs ?_
     refine AL.nil (th_n (AC.seq (AC.region ?_)))
     refine AL.p (by exact mv2 rfl) rfl ?_
     refine zF ?_
     refine zl ?_
     refine AL.p (by exact g_ia_own (i := f) (l := n) rfl rfl rfl rfl rfl rfl (by omega) rfl) rfl ?_
     refine AL.p (by exact g_load_arr1 rfl rfl rfl rfl (by rw [Nat.mul_one]; exact hcf)) rfl ?_
     refine AL.nil (th_n ?_)
     refine AC.condB rfl (fun h2 => ?_) (fun h2 => ?_)
     ·refine AC.region ?_
      refine AL.p (by exact mv2 rfl) rfl ?_
      refine zF ?_
      refine zl ?_
      refine AL.p (by exact g_ia_own (i := t) (l := n) rfl rfl rfl rfl rfl rfl (by omega) rfl) rfl ?_
      refine AL.q (by exact h_store_arr (i := t) (j := 0) (d := dT true) rfl rfl rfl rfl .same rfl hct (by decide)) rfl ?_
      refine AL.nil (ib_n (th_n (AC.region ?_)))
      refine zA ?_
      refine zm ?_
      refine AL.nil (th_n ?_)
      (have e := hye2 ‹b = true›; exact ⟨(d.set t true, j + 1), ⟨e, by dsimp only; omega⟩, by dsimp only; omega, zw [(100, 100)] hC (b := by rw [boolL_set]; repeat (first | exact True.intro | refine And.intro ?_ ?_ | exact rfl | refine ⟨_, _, rfl, rfl, ?_⟩))⟩)
     ·refine AC.skip (ib_n (th_n (AC.region ?_)))
      refine zA ?_
      refine zm ?_
      refine AL.nil (th_n ?_)
      (have e := hno ‹b = false›; exact ⟨(d, j + 1), ⟨e, by dsimp only; omega⟩, by dsimp only; omega, zw [(100, 100)] hC⟩)
    ·refine AC.exit (th_e (th_e (ib_y (ib_n (th_n (AC.region ?_))))))
     refine zA ?_
     refine zm ?_
     refine AL.nil (th_n ?_)
     have e := hB.next hD3 (by omega)
     exact ⟨(d, r + 1), ⟨e, by dsimp only; omega⟩, by dsimp only; omega, zw [(100, 100)] hC⟩
  ·refine AC.exit (th_e (th_e (ib_y (th_n (AC.seq (AC.seq ?_))))))
   have hrn : r = n := by omega
   rw [hrn] at hB
   have hcl := hB.len
   have hca := fun v => hB.all hle v
   refine AC.weak (Weak.freeze (i := 3) rfl rfl (by rw [boolL_len, hcl]; exact Nat.le_refl _) (List.take_of_length_le (by rw [boolL_len, hcl]; exact Nat.le_refl _))) ?_
   refine AC.region ?_
   refine zm ?_
   refine AL.p (by exact g_len_view (k := n) rfl rfl (by rw [boolL_len, hcl])) rfl ?_
   refine zm ?_
   refine AL.nil (th_n (AC.block ?_))
   refine AC.loop (ι := Nat) (fun v => ⟨46, 900, [(37, .d (.view 4 1 (boolL d))), (38, aI n), (39, aI v)], []⟩) (fun v => v ≤ n ∧ ∀ w, w < v → decide (0 ≤ oa o w) = true) (fun v => n - v) (0) ?_ (⟨Nat.zero_le _, fun w hw => absurd hw (Nat.not_lt_zero _)⟩) ?_
   ·exact Weak.ren _ [] hC rfl (by repeat (first | exact True.intro | refine And.intro ?_ ?_ | exact DLead.same)) (by repeat (exact True.intro)) rfl rfl rfl
   ·rintro v ⟨hv, hall⟩
    refine AC.seq (AC.region ?_)
    refine zc ?_
    refine AL.nil (th_n (AC.seq ?_))
    refine AC.condD rfl (fun h1 => ?_) (fun h1 => ?_)
    ·refine AC.skip (th_n (AC.seq (AC.block (AC.seq ?_))))
     have hv1 : v < n := by omega
     have hgv := boolL_get (c := d) (v := v) (by omega)
     rw [hca v] at hgv
     obtain ⟨b, hb⟩ : ∃ b, b = decide (0 ≤ oa o v) := ⟨_, rfl⟩
     rw [← hb] at hgv
     refine AC.region ?_
     refine AL.p (by exact g_ia_view (i := v) rfl rfl rfl rfl rfl rfl hgv) rfl ?_
     refine zr ?_
     refine za ?_
     refine AL.nil (th_n (AC.seq (AC.region ?_)))
     refine zm ?_
     refine AL.p (by exact g_not rfl) rfl ?_
     refine AL.nil (th_n ?_)
     refine AC.condB rfl (fun h2 => ?_) (fun h2 => ?_)
     ·refine AC.seq (AC.region ?_)
      refine za ?_
      refine AL.nil (th_n (AC.ret (ib_r (th_r (th_r (ib_r (th_r (bq_r ?_))))))))
      exact ret1 rfl (by rw [allU_no hv1 (by rw [← hb]; simpa using ‹(!b) = true›)])
     ·refine AC.skip (ib_n (th_n (AC.region ?_)))
      refine zA ?_
      refine zm ?_
      refine AL.nil (th_n ?_)
      exact ⟨v + 1, ⟨by omega, fun w hw => by rcases Nat.lt_succ_iff_lt_or_eq.1 hw with h | rfl; exact hall w h; rw [← hb]; simpa using ‹(!b) = false›⟩, by omega, Weak.ren _ [] hC rfl (by repeat (first | exact True.intro | refine And.intro ?_ ?_ | exact DLead.same)) (by repeat (exact True.intro)) rfl rfl rfl⟩
    ·refine AC.exit (th_e (th_e (ib_y (th_n (AC.seq (AC.region ?_))))))
     refine za ?_
     refine AL.nil (th_n (AC.ret (bq_r ?_)))
     exact ret1 rfl (by rw [allU_yes fun w hw => hall w (by omega)])
theorem en_l5All : Enters Tryz.prog 208 := enters_of Tryz.func208 rfl rfl
end Go.Proofs.YthafkkgmekgmoaaGreat
