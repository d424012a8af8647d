/- Contracts of the functions of the program and of the reference, each proved by a walk through its code. -/
import Derived.WalkKit
import Derived.WalkSpells
import Derived.WalkLawsBesides
import Derived.Deep.Draws
import Derived.Lib.Hide
import Derived.Maps.AppendAt
import Derived.OwnWalk
import Derived.Deep.MidRow
import Derived.Laws.ResultCell
import Derived.Deep.Upon
import Derived.Great.FillDense
import Derived.Laws.Tables
import Derived.Laws.BytesArg
import Derived.Laws.MakeOwn
import Derived.Great.BuildSlice
import Derived.ArgAppend
import Derived.Deep.AppendSrc
import Derived.Test.YtbmlfcjoeieibaaProg
import Derived.KernelRfl
import Derived.Orders
import Derived.Laws.IdiomStrings
import Derived.Lib.AppendZerosOnto
import Derived.ProofKit
import Derived.OpenShut
import Derived.Laws.StructEq
import Derived.ChangeKeysEq
import Derived.Test.YtbmlfcjoeieibaaChecked
import Derived.Test.YtbmlfcjoeieibaaGOb2
set_option linter.all false
set_option maxRecDepth 20000
namespace Go.Proofs.Ytbmlfcjoeieibaa
open Go.RowKit

theorem TL.flatNew {w : World} {S : Nat → Prop} {L : List DV} {V : List Value} (h : TL w S L V) (hL : ∀ d, d ∈ L → d.flat) {Vn : List Value} (hV : ∀ v, v ∈ Vn → okV v) : TL w S (Vn.map .val) Vn := by
  obtain ⟨Ts, h1, h2, h3, h4⟩ := h
  have hS : ∀ k, ¬ S k := by
    intro k hk
    obtain ⟨i, hi, hk'⟩ := (h4 k).1 hk
    have hd := List.getElem?_eq_getElem hi
    have hf := hL _ (List.getElem_mem hi)
    have hv := List.getElem?_eq_getElem (show i < V.length by omega)
    have hT := h2 i _ _ hd hv
    generalize L[i] = d at hf hT
    generalize V[i] = u at hT
    cases hT with
    | val h _ => exact h k hk'
    | _ => exact hf.elim
  refine ⟨fun _ _ => False, by simp, fun i d v hd hv => ?_, fun _ _ _ h => h.elim, fun k => ⟨fun h => absurd h (hS k), fun ⟨_, _, h⟩ => h.elim⟩⟩
  rw [List.getElem?_map, hv] at hd
  simp only [Option.map_some, Option.some.injEq] at hd
  subst hd
  exact .val (fun _ h => h) (hV v (List.mem_of_getElem? hv))
def seqI (k : Int) (n : Nat) : List Int := (List.range n).map fun i => k + (i : Nat)
theorem seqI_len (k : Int) (n : Nat) : (seqI k n).length = n := by simp [seqI]
def mkI (k : Int) (i : Nat) (l : List Int) : List Int := seqI k i ++ l.drop i
theorem mkI_zero (k : Int) (l : List Int) : mkI k 0 l = l := by simp [mkI, seqI]
theorem mkI_len {k : Int} {i : Nat} {l : List Int} (h : i ≤ l.length) : (mkI k i l).length = l.length := by simp [mkI, seqI]; omega
theorem mkI_all (k : Int) (l : List Int) : mkI k l.length l = seqI k l.length := by simp [mkI]
theorem mkI_set {k : Int} {i : Nat} {l : List Int} (h : i < l.length) : (ints (mkI k i l)).set i [dI (k + i)] = ints (mkI k (i + 1) l) := by
  unfold mkI ints seqI
  rw [List.map_append, List.set_append_right _ _ (by simp), List.range_succ]
  simp only [List.map_append, List.map_cons, List.map_nil, List.append_assoc, List.length_map, List.length_range, Nat.sub_self]
  congr 1
  rw [List.drop_eq_getElem_cons h]
  rfl
theorem rowsV_ints {l : List Int} {V : List Value} (h1 : V.length = l.length) (h : ∀ (c : Nat) x, (ints l).flatten[c]? = some (.val x) → V[c]? = some x) : rowsV 1 l.length V = ints l := by
  have hfl : ∀ l : List Int, (ints l).flatten = l.map dI := by
    intro l
    induction l with
    | nil => rfl
    | cons x l ih => simp only [ints, List.map_cons, List.flatten_cons] at ih ⊢; rw [ih]; rfl
  apply List.ext_getElem?
  intro i
  by_cases hi : i < l.length
  · rw [rowsV_get hi]
    have := h i (.int .i64 l[i]) (by rw [hfl]; simp [hi, dI])
    simp [ints, hi, this, dI]
  · rw [List.getElem?_eq_none (by rw [rowsV_len]; omega), List.getElem?_eq_none (by rw [ints_len]; omega)]
theorem ints_flatten (l : List Int) : (ints l).flatten = (l.map fun x => Value.int .i64 x).map .val := by
  induction l with
  | nil => rfl
  | cons x l ih => simp only [ints, List.map_cons, List.flatten_cons] at ih ⊢; rw [ih]; rfl
theorem rowsV_seq (l : List Int) : rowsV 1 l.length (l.map fun x => Value.int .i64 x) = ints l := by
  refine rowsV_ints (by simp) fun c x hc => ?_
  rw [ints_flatten, List.getElem?_map, Option.map_eq_some_iff] at hc
  obtain ⟨y, hy, he⟩ := hc
  cases he; exact hy
theorem ints_flat2 (l : List Int) : ∀ d, d ∈ (ints l).flatten → d.flat := by
  intro d hd
  obtain ⟨cs, h1, h2⟩ := List.mem_flatten.1 hd
  exact ints_flat l cs h1 d h2
theorem ints_row (l : List Int) : ∀ cs, cs ∈ ints l → cs.length = 1 := by
  intro cs hc
  obtain ⟨x, _, rfl⟩ := List.mem_map.1 hc
  rfl
theorem seqI_ok {k : Int} {n : Nat} (hk : 0 ≤ k ∧ k ≤ 1073741824) (hn : n ≤ 1048576) : ∀ v, v ∈ (seqI k n).map (fun x => Value.int .i64 x) → okV v := by
  intro v hv
  obtain ⟨x, hx, rfl⟩ := List.mem_map.1 hv
  obtain ⟨i, hi, rfl⟩ := List.mem_map.1 hx
  rw [List.mem_range] at hi
  exact wrap_i64 (by omega)
set_option maxHeartbeats 2000000 in
theorem markIntS_T (l : List Int) (k : Int) (hl : l.length ≤ 1048576) (hk : 0 ≤ k ∧ k ≤ 1073741824) (v : Value) (S : Nat → Prop) : ASpec Try.prog 11 [.d (.val v), aI k] [(0, .pred S fun w => TRep w S (vI l) v)] (Fun1 (aI (k + l.length)) [(0, .pred S fun w => TRep w S (vI (seqI k l.length)) v)]) := by
  refine ASpec.of Try.func11 rfl rfl fun C hC => ?_
  refine AC.seq ?_
  refine AC.weakR (WeakR.openT 0 0 rfl rfl (fun w h => h) rfl rfl) ?_
  rintro _ ⟨p, V, S', ⟨hv, hp, hV, hrow, hS, hx⟩, rfl⟩
  rw [ints_len] at *
  rw [rowsV_ints (by omega) hx]
  refine AC.region ?_
  refine AL.p (by exact as1 rfl) rfl ?_
  refine AL.nil ?_
  refine th_n ?_
  refine AC.seq ?_
  refine AC.seq ?_
  refine AC.region ?_
  refine AL.p (by exact as1 rfl) rfl ?_
  refine AL.nil ?_
  refine th_n ?_
  refine AC.block ?_
  refine AC.loop (ι := Nat) (fun i => ⟨19, 108, [(0, .own 100 l.length), (1, aI (k + i)), (5, aI i)], [(100, some (.arr 3 1 (ints (mkI k i l)))), (101, some (.lock 100 p)), (0, some (.pred S' fun w => TL w S' (ints l).flatten V))]⟩) (fun i => i ≤ l.length) (fun i => l.length - i) (0) ?_ (Nat.zero_le _) ?_
  · exact Weak.ren _ [(100, 1), (101, 2)] hC rfl (by repeat (first | exact True.intro | refine And.intro ?_ ?_ | exact DLead.same | exact DLead.eqI (by omega) | exact rfl | refine ⟨_, rfl, ?_⟩)) (by rw [mkI_zero]; repeat (first | exact True.intro | refine And.intro ?_ ?_ | exact rfl | refine ⟨_, _, rfl, rfl, ?_⟩ | refine ⟨_, rfl, ?_⟩)) rfl rfl rfl
  · intro i hi
    refine AC.seq ?_
    refine AC.seq ?_
    refine AC.region ?_
    refine AL.p (by exact mv1 rfl) rfl ?_
    refine AL.p (by exact mv2 rfl) rfl ?_
    refine AL.p (by exact g_len_own (sz := 1) (els := []) (e' := 0) rfl rfl (by simp only [maxLen]; omega)) rfl ?_
    refine AL.p (by exact g_cmp rfl rfl rfl) rfl ?_
    refine AL.nil ?_
    refine th_n ?_
    refine AC.condD rfl (fun h0 => ?_) (fun h0 => ?_)
    · refine AC.skip ?_
      refine th_n ?_
      refine AC.seq ?_
      refine AC.block ?_
      refine AC.seq ?_
      have hi1 : i < l.length := by omega
      have hlen := ints_len (mkI k i l)
      rw [mkI_len hi] at hlen
      have hgf : (ints (mkI k i l))[i]? = some [dI ((mkI k i l)[i]'(by rw [mkI_len hi]; exact hi1))] := ints_at _
      have hst := mkI_set (k := k) hi1
      refine AC.region ?_
      refine AL.p (by exact mv2 rfl) rfl ?_
      refine AL.p (by exact mv1 rfl) rfl ?_
      refine AL.p (by exact mv1 rfl) rfl ?_
      refine AL.p (by exact g_ia_own rfl rfl rfl rfl rfl (by rfl) (by omega) (by exact Nat.mul_one _)) rfl ?_
      refine AL.q (by exact h_store_arr1 rfl rfl rfl rfl (by exact .same) (by assumption)) rfl ?_
      refine AL.nil ?_
      refine th_n ?_
      refine AC.region ?_
      refine AL.p (by exact mv1 rfl) rfl ?_
      refine AL.p (by exact g_arith rfl rfl rfl (by exact wrap_i64 (by omega))) rfl ?_
      refine AL.p (by exact as1 rfl) rfl ?_
      refine AL.nil ?_
      refine ib_n ?_
      refine th_n ?_
      refine AC.region ?_
      refine AL.p (by exact mv1 rfl) rfl ?_
      refine AL.p (by exact g_arith rfl rfl rfl (by exact wrap_i64 (by omega))) rfl ?_
      refine AL.p (by exact as1 rfl) rfl ?_
      refine AL.nil ?_
      refine th_n ?_
      exact ⟨i + 1, by omega, by omega, Weak.ren _ [(100, 100), (101, 101)] hC rfl (by repeat (first | exact True.intro | refine And.intro ?_ ?_ | exact DLead.same | exact DLead.eqI (by omega) | exact rfl | refine ⟨_, rfl, ?_⟩)) (by rw [← hst]; repeat (first | exact True.intro | refine And.intro ?_ ?_ | exact rfl | refine ⟨_, _, rfl, rfl, ?_⟩ | refine ⟨_, rfl, ?_⟩)) rfl rfl rfl⟩
    · refine AC.exit ?_
      refine th_e ?_
      refine th_e ?_
      refine ib_y ?_
      refine th_n ?_
      refine AC.seq ?_
      obtain rfl : i = l.length := by omega
      rw [mkI_all]
      refine AC.weak (Weak.closeT (els := ints (seqI k l.length)) (V := (seqI k l.length).map fun x => Value.int .i64 x) (n := 0) (v := v) (S := S) (S' := S') (p := p) 0 0 100 101 (by rw [ints_len, seqI_len] <;> rfl) rfl (fun w h => by rw [ints_flatten]; exact h.flatNew (ints_flat2 l) (seqI_ok hk hl)) (by rw [ints_len, rowsV_seq]; rfl) rfl (by rw [ints_len, seqI_len]; exact hv) (by rw [ints_len, seqI_len]; exact hp) (ints_row _) hS rfl rfl) ?_
      refine AC.region ?_
      refine AL.p (by exact mv1 rfl) rfl ?_
      refine AL.p (by exact as1 rfl) rfl ?_
      refine AL.nil ?_
      refine th_n ?_
      refine AC.ret ?_
      refine bq_r ?_
      exact retX [] rfl ⟨rfl, rfl⟩ (by repeat (exact DLead.same)) (by repeat (first | exact True.intro | refine And.intro ?_ ?_ | exact rfl | refine ⟨_, _, rfl, rfl, ?_⟩)) rfl rfl
theorem en_markIntS : Enters Try.prog 11 := enters_of Try.func11 rfl rfl
end Go.Proofs.Ytbmlfcjoeieibaa

set_option linter.all false
set_option maxRecDepth 20000
namespace Go.Proofs.Ytbmlfcjoeieibaa
open Go.RowKit

def sumL {α : Type} (wt : α → Nat) : List α → Nat
  | [] => 0
  | x :: l => wt x + sumL wt l
theorem sumL_app {α : Type} (wt : α → Nat) : ∀ (l m : List α), sumL wt (l ++ m) = sumL wt l + sumL wt m
  | [], m => by simp [sumL]
  | x :: l, m => by simp only [List.cons_append, sumL, sumL_app wt l m]; omega
theorem sumL_take {α : Type} {wt : α → Nat} {l : List α} {i : Nat} (h : i < l.length) : sumL wt (l.take (i + 1)) = sumL wt (l.take i) + wt l[i] := by
  rw [List.take_add_one, List.getElem?_eq_getElem h, sumL_app]; simp [sumL]
theorem sumL_le {α : Type} (wt : α → Nat) (l : List α) (i : Nat) : sumL wt (l.take i) ≤ sumL wt l := by
  have := sumL_app wt (l.take i) (l.drop i)
  rw [List.take_append_drop] at this
  omega
end Go.Proofs.Ytbmlfcjoeieibaa

set_option linter.all false
set_option maxRecDepth 20000
namespace Go.Proofs.Ytbmlfcjoeieibaa
open Go.RowKit

/-- The places of conditions lie in the net. -/
def PL (N : Net) (u : Unf) : Prop := ∀ c, c ∈ u.cs → 0 ≤ c.place ∧ c.place < N.places
theorem run_pl {N : Net} (hN : NetS N) : ∀ (hs : List Ev) (u now : Unf), PL N u → runI N u hs = some now → PL N now
  | [], u, now, hp, h => by rw [runI] at h; cases h; exact hp
  | x :: hs, u, now, hp, h => by
    rw [runI] at h
    split at h
    · rename_i hf
      refine run_pl hN hs _ now ?_ h
      intro c hc
      rcases List.mem_append.1 hc with h1 | h1
      · exact hp c h1
      · obtain ⟨p, hp', rfl⟩ := List.mem_map.1 h1
        have := rising_in (hN.t _ (tAt_mem (fits_inR hf))).2.2.2.2 p hp'
        show 0 ≤ p ∧ p < _
        omega
    · cases h
theorem Good.pl {N : Net} {m : List UInt8} {u : Unf} (h : Good N m u) : PL N u := by
  refine run_pl h.n _ _ _ ?_ h.r
  intro c hc
  obtain ⟨p, hp, rfl⟩ := List.mem_map.1 hc
  have := List.mem_range.1 (List.mem_filter.1 hp).1
  have := h.n.p
  show 0 ≤ (p : Int) ∧ (p : Int) < _
  omega
end Go.Proofs.Ytbmlfcjoeieibaa

set_option linter.all false
set_option maxRecDepth 20000
namespace Go.Proofs.Ytbmlfcjoeieibaa
open Go.RowKit

theorem c1 {q b1 b2 : Bool} (hq : q = ((true || b1) && !b2)) (h : (!b2) = true) : q = true := by rw [hq, h]; rfl
theorem c2 {q b1 b2 : Bool} (hq : q = ((true || b1) && !b2)) (h : (!b2) = false) : q = false := by rw [hq, h]; rfl
end Go.Proofs.Ytbmlfcjoeieibaa

set_option linter.all false
set_option maxRecDepth 20000
namespace Go.Proofs.Ytbmlfcjoeieibaa
open Go.RowKit

set_option maxHeartbeats 1000000 in
theorem heldIntS_spec (k : Int) (n : Nat) (hn : n ≤ 1048576) (hk : 0 ≤ k ∧ k ≤ 1073741824) : ASpec Try.prog 12 [.d (vI (seqI k n)), aI k] [] (Pure1 (aI (k + n))) := by
  have hl := seqI_len k n
  refine ASpec.of Try.func12 rfl rfl fun C hC => ?_
  refine AC.seq ?_
  refine AC.region ?_
  refine AL.p (by exact as1 rfl) rfl ?_
  refine AL.nil ?_
  refine th_n ?_
  refine AC.seq ?_
  refine AC.seq ?_
  refine AC.region ?_
  refine AL.p (by exact as1 rfl) rfl ?_
  refine AL.nil ?_
  refine th_n ?_
  refine AC.block ?_
  refine AC.loop (ι := Nat) (fun i => ⟨21, 0, [(0, .d (vI (seqI k n))), (1, aI (k + i)), (5, aI i)], []⟩) (fun i => i ≤ n) (fun i => n - i) (0) ?_ (Nat.zero_le _) ?_
  · refine Weak.ren _ [] hC rfl ?_ ?_ rfl rfl rfl <;> repeat (first | exact True.intro | refine And.intro ?_ ?_ | exact DLead.same | exact DLead.eqI (by omega))
  · intro i hi
    refine AC.seq ?_
    refine AC.seq ?_
    refine AC.region ?_
    refine AL.p (by exact mv1 rfl) rfl ?_
    refine AL.p (by exact mv1 rfl) rfl ?_
    refine AL.p (by exact g_len_view rfl rfl (by exact List.length_map _)) rfl ?_
    refine AL.p (by exact g_cmp rfl rfl rfl) rfl ?_
    refine AL.nil ?_
    refine th_n ?_
    refine AC.condD rfl (fun h0 => ?_) (fun h0 => ?_)
    · refine AC.skip ?_
      refine th_n ?_
      refine AC.seq ?_
      refine AC.block ?_
      refine AC.seq ?_
      refine AC.seq ?_
      have hi1 : i < n := by omega
      have hget : (ints (seqI k n))[i]? = some [dI (k + i)] := by simp [ints, seqI, hi1]
      refine AC.region ?_
      refine AL.p (by exact mv1 rfl) rfl ?_
      refine AL.p (by exact mv1 rfl) rfl ?_
      refine AL.p (by exact g_ia_view rfl rfl rfl rfl rfl (by rfl) (by assumption)) rfl ?_
      refine AL.p (by exact g_load_ref rfl rfl rfl) rfl ?_
      refine AL.p (by exact mv1 rfl) rfl ?_
      refine AL.p (by exact g_cmp rfl rfl rfl) rfl ?_
      refine AL.nil ?_
      refine th_n ?_
      refine AC.condND rfl (fun h1 => ?_) (fun h1 => ?_)
      · refine AC.seq ?_
        exact absurd h1 (by simp)
      · refine AC.skip ?_
        refine th_n ?_
        refine AC.region ?_
        refine AL.p (by exact mv1 rfl) rfl ?_
        refine AL.p (by exact g_arith rfl rfl rfl (by exact wrap_i64 (by omega))) rfl ?_
        refine AL.p (by exact as1 rfl) rfl ?_
        refine AL.nil ?_
        refine ib_n ?_
        refine th_n ?_
        refine AC.region ?_
        refine AL.p (by exact mv1 rfl) rfl ?_
        refine AL.p (by exact g_arith rfl rfl rfl (by exact wrap_i64 (by omega))) rfl ?_
        refine AL.p (by exact as1 rfl) rfl ?_
        refine AL.nil ?_
        refine th_n ?_
        exact ⟨i + 1, hi1, by omega, Weak.ren _ [] hC rfl (by repeat (first | exact True.intro | refine And.intro ?_ ?_ | exact DLead.same | exact DLead.eqI (by omega))) (by repeat (exact True.intro)) rfl rfl rfl⟩
    · refine AC.exit ?_
      refine th_e ?_
      refine th_e ?_
      refine ib_y ?_
      refine th_n ?_
      refine AC.seq ?_
      refine AC.region ?_
      refine AL.p (by exact mv1 rfl) rfl ?_
      refine AL.p (by exact as1 rfl) rfl ?_
      refine AL.nil ?_
      refine th_n ?_
      refine AC.ret ?_
      refine bq_r ?_
      obtain rfl : i = n := by omega
      exact ret1 rfl rfl
theorem en_heldIntS : Enters Try.prog 12 := enters_of Try.func12 rfl rfl
/-- A list in blocks of its own, and a truth. -/
def TupT (l : List Int) (b : Bool) : AV → List (Nat × Chunk) → Prop := fun r chs => ∃ v S, r = .tup [.d (.val v), aT b] ∧ chs = [(0, .pred S fun w => TRep w S (vI l) v)]
theorem Weak.nilT {C : Ctx} {s : ASt} : Weak C s { n := s.n, nx := s.nx + 8, sl := s.sl, ch := (s.nx, some (.pred (fun _ => False) fun w => TRep w (fun _ => False) (vI []) (.slice none 0 0))) :: (s.nx, some (.pred (fun _ => False) fun w => TL w (fun _ => False) [] [])) :: s.ch } :=
  Weak.emptyT.trans (Weak.cons (K := fun w => TL w (fun _ => False) [] []) s.nx (s := { n := s.n, nx := s.nx + 8, sl := s.sl, ch := (s.nx, some (.pred (fun _ => False) fun w => TL w (fun _ => False) [] [])) :: s.ch }) _ (by simp [ASt.chunk, getL_cons]) (fun w _ => .nil fun _ h => h) (fun w w' hk h => h.turn hk))
end Go.Proofs.Ytbmlfcjoeieibaa

set_option linter.all false
set_option maxRecDepth 20000
namespace Go.Proofs.Ytbmlfcjoeieibaa
open Go.RowKit

theorem TupT.solid {l : List Int} {b : Bool} (r : AV) (chs : List (Nat × Chunk)) (h : TupT l b r chs) : r.solid = true ∧ ∀ id c, getL id chs = some c → c.solid := by
  obtain ⟨v, S, rfl, rfl⟩ := h
  refine ⟨rfl, fun id c hc => ?_⟩
  obtain ⟨_, rfl⟩ := getL_one hc
  exact trivial
theorem TupT.thaw {P : Program} {f : FuncId} {ars : List AV} {l : List Int} {b : Bool} (h : ASpec P f ars [] (TupT l b)) : ASpec P f ars [] (Pure1 (.tup [.d (vI l), aT b])) := by
  intro w m Fin vs h1 h2 h3 h4 h5 h6
  refine Calls.mono (h w m Fin vs h1 h2 h3 h4 h5 h6) ?_
  rintro e w' ⟨v, r, chs', m', F', rfl, ⟨v1, S, rfl, rfl⟩, g1, g2, g3, g4, g5, g6, g7⟩
  refine ⟨v, _, [], m', fun k => (Fin k ∨ (∃ id c p, getL id ([] : List (Nat × Chunk)) = some c ∧ m id = some p ∧ occ p c k) ∨ w.heap.size ≤ k) ∧ k < w'.heap.size ∧ ∀ id c p, getL id ([] : List (Nat × Chunk)) = some c → m' id = some p → ¬ occ p c k, rfl, ⟨rfl, rfl⟩, g1, g2, fun k => Iff.rfl, g4, ?_, fun id c hc => by simp [getL] at hc, fun id id' c c' p p' b hc => by simp [getL] at hc⟩
  obtain ⟨p, q1, q2, q3⟩ := g6 0 _ rfl
  obtain ⟨rfl, k1, k2, k3⟩ := q2.predAt
  have hD : DRep (fun k => (Fin k ∨ (∃ id c p, getL id ([] : List (Nat × Chunk)) = some c ∧ m id = some p ∧ occ p c k) ∨ w.heap.size ≤ k) ∧ k < w'.heap.size ∧ ∀ id c p, getL id ([] : List (Nat × Chunk)) = some c → m' id = some p → ¬ occ p c k) w' (vI l) v1 := by
    refine k1.data.mono fun k hk => ⟨.inr (.inr ?_), k3 k hk, fun id c p hc => by simp [getL] at hc⟩
    rcases q3 k (.inr hk) with h | ⟨_, _, _, hc, _⟩
    · exact h
    · simp [getL] at hc
  cases g5 with
  | tup t1 t2 =>
    refine .tup t1 fun i c hc => ?_
    match i, hc with
    | 0, hc =>
      simp at hc; subst hc
      have := t2 0 _ rfl
      generalize Array.getD _ 0 undef = u at this ⊢
      cases this with
      | d h => cases h; exact .d hD
    | 1, hc =>
      simp at hc; subst hc
      exact (t2 1 _ rfl).flat rfl
    | i + 2, hc => simp at hc
end Go.Proofs.Ytbmlfcjoeieibaa

set_option linter.all false
set_option maxRecDepth 20000
namespace Go.Proofs.Ytbmlfcjoeieibaa
open Go.RowKit

structure Sig where
  name : List UInt8
  kind : Int
  deriving DecidableEq
structure Lab where
  sig : Int
  up : Bool
  deriving DecidableEq
structure Bur where
  from_ : Int
  inn : List Lab
  out : List Lab
  to_ : Int
  deriving DecidableEq
structure Mach where
  sigs : List Sig
  states : Int
  burs : List Bur
  first : List UInt8
  deriving DecidableEq
abbrev sigD (s : Sig) : List DV := [dS (bstr s.name), dI s.kind]
abbrev sigA (s : Sig) : AV := .agg [aS (bstr s.name), aI s.kind]
abbrev labD (l : Lab) : List DV := [dI l.sig, dT l.up]
abbrev labA (l : Lab) : AV := .agg [aI l.sig, aT l.up]
abbrev sigsL (l : List Sig) : List (List DV) := l.map sigD
abbrev labsL (l : List Lab) : List (List DV) := l.map labD
abbrev vSigs (l : List Sig) : DV := .view 66 2 (sigsL l)
abbrev vLabs (l : List Lab) : DV := .view 80 2 (labsL l)
abbrev vLSigs (l : List Sig) : DV := .view 56 2 (sigsL l)
abbrev vLLabs (l : List Lab) : DV := .view 91 2 (labsL l)
abbrev burD (b : Bur) : List DV := [dI b.from_, vLabs b.inn, vLabs b.out, dI b.to_]
abbrev burA (b : Bur) : AV := .agg [aI b.from_, .d (vLabs b.inn), .d (vLabs b.out), aI b.to_]
abbrev burLD (b : Bur) : List DV := [dI b.from_, vLLabs b.inn, vLLabs b.out, dI b.to_]
abbrev burLA (b : Bur) : AV := .agg [aI b.from_, .d (vLLabs b.inn), .d (vLLabs b.out), aI b.to_]
abbrev bursL (l : List Bur) : List (List DV) := l.map burD
abbrev bursLL (l : List Bur) : List (List DV) := l.map burLD
abbrev vBurs (l : List Bur) : DV := .view 46 4 (bursL l)
abbrev vLBurs (l : List Bur) : DV := .view 60 4 (bursLL l)
abbrev machD (m : Mach) : List DV := [vSigs m.sigs, dI m.states, vBurs m.burs, dS (bstr m.first)]
abbrev machA (m : Mach) : AV := .agg [.d (vSigs m.sigs), aI m.states, .d (vBurs m.burs), aS (bstr m.first)]
abbrev machLD (m : Mach) : List DV := [vLSigs m.sigs, dI m.states, vLBurs m.burs, dS (bstr m.first)]
abbrev machLA (m : Mach) : AV := .agg [.d (vLSigs m.sigs), aI m.states, .d (vLBurs m.burs), aS (bstr m.first)]
theorem sigsL_len (l : List Sig) : (sigsL l).length = l.length := List.length_map _
theorem sigsL_get {l : List Sig} {k : Nat} (h : k < l.length) : (sigsL l)[k]? = some (sigD l[k]) := by unfold sigsL; rw [List.getElem?_map, List.getElem?_eq_getElem h]; rfl
theorem labsL_len (l : List Lab) : (labsL l).length = l.length := List.length_map _
theorem labsL_get {l : List Lab} {k : Nat} (h : k < l.length) : (labsL l)[k]? = some (labD l[k]) := by unfold labsL; rw [List.getElem?_map, List.getElem?_eq_getElem h]; rfl
theorem bursL_len (l : List Bur) : (bursL l).length = l.length := List.length_map _
theorem bursL_get {l : List Bur} {k : Nat} (h : k < l.length) : (bursL l)[k]? = some (burD l[k]) := by unfold bursL; rw [List.getElem?_map, List.getElem?_eq_getElem h]; rfl
theorem bursLL_get {l : List Bur} {k : Nat} (h : k < l.length) : (bursLL l)[k]? = some (burLD l[k]) := by unfold bursLL; rw [List.getElem?_map, List.getElem?_eq_getElem h]; rfl
theorem szI_neg {n m : Nat} {left : Int} (h : left - n < 0) (hm : n ≤ m) : szI m left = -1 := by rw [szI, if_pos (by omega)]
theorem szI_pos {n : Nat} {left : Int} (h : 0 ≤ szI n left) : szI n left = left - n := by
  unfold szI at h ⊢
  split at h
  · omega
  · rename_i h1; rw [if_neg h1]
theorem szI_le {n : Nat} {left : Int} (h : 0 ≤ szI n left) : szI n left + n ≤ left := by rw [szI_pos h]; omega
theorem szI_c {n m : Nat} {left : Int} (h : 0 ≤ szI n left) : szI m (szI n left) = szI (n + m) left := by
  rw [szI_pos h]
  unfold szI
  by_cases h1 : left - n - m < 0
  · rw [if_pos h1, if_pos (by omega)]
  · rw [if_neg h1, if_neg (by omega)]; omega
theorem szI_c0 {n m : Nat} {left : Int} (h : szI n left < 0) : szI (n + m) left = -1 := by
  refine szI_neg (n := n) ?_ (by omega)
  unfold szI at h
  split at h
  · assumption
  · assumption
def szSg (s : Sig) : Nat := s.name.length
def szSgs (l : List Sig) : Nat := l.length + sumL szSg l
def szBr (b : Bur) : Nat := b.inn.length + b.out.length
def szBrs (l : List Bur) : Nat := l.length + sumL szBr l
def szMc (m : Mach) : Nat := szSgs m.sigs + szBrs m.burs + m.first.length
set_option maxHeartbeats 1000000 in
theorem szSig_spec (s : Sig) (left : Int) (h : 0 ≤ left ∧ left ≤ 1048576) (hl : s.name.length ≤ 9223372036854775807) : ASpec Try.prog 26 [sigA s, aI left] [] (Pure1 (aI (szI (szSg s) left))) := by
  have hsz := bstr_size s.name
  unfold szSg
  refine ASpec.of Try.func26 rfl rfl fun C hC => ?_
  refine AC.seq ?_
  refine AC.region ?_
  refine AL.q (by exact h_boxF rfl rfl) rfl ?_
  refine AL.p (by exact as1 rfl) rfl ?_
  refine AL.nil ?_
  refine th_n ?_
  refine AC.seq ?_
  refine AC.region ?_
  refine AL.p (by exact mv1 rfl) rfl ?_
  refine AL.p (by exact g_fa_ref rfl rfl rfl rfl rfl rfl) rfl ?_
  refine AL.p (by exact g_load_ref rfl rfl rfl) rfl ?_
  refine AL.p (by exact g_len_str rfl rfl rfl) rfl ?_
  refine AL.p (by exact g_arith rfl rfl rfl (by exact wrap_i64 (by omega))) rfl ?_
  refine AL.p (by exact as1 rfl) rfl ?_
  refine AL.nil ?_
  refine th_n ?_
  refine AC.seq ?_
  refine AC.seq ?_
  refine AC.region ?_
  refine AL.p (by exact mv1 rfl) rfl ?_
  refine AL.p (by exact g_cmp rfl rfl rfl) rfl ?_
  refine AL.nil ?_
  refine th_n ?_
  refine AC.condD rfl (fun h0 => ?_) (fun h0 => ?_)
  · refine AC.seq ?_
    refine AC.region ?_
    refine AL.p (by exact as1 rfl) rfl ?_
    refine AL.nil ?_
    refine th_n ?_
    refine AC.ret ?_
    refine th_r ?_
    refine bq_r ?_
    exact ret1 rfl (by rw [szI, if_pos (by omega)])
  · refine AC.skip ?_
    refine th_n ?_
    refine AC.seq ?_
    refine AC.region ?_
    refine AL.p (by exact mv1 rfl) rfl ?_
    refine AL.p (by exact as1 rfl) rfl ?_
    refine AL.nil ?_
    refine th_n ?_
    refine AC.ret ?_
    refine bq_r ?_
    exact ret1 rfl (by rw [szI, if_neg (by omega), hsz])
theorem en_szSig : Enters Try.prog 26 := enters_of Try.func26 rfl rfl
theorem szLabS_spec (l : List Lab) (left : Int) (h : 0 ≤ left ∧ left ≤ 1048576) (hl : l.length ≤ 9223372036854775807) : ASpec Try.prog 39 [.d (vLLabs l), aI left] [] (Pure1 (aI (szI l.length left))) := by
  refine ASpec.of Try.func39 rfl rfl fun C hC => ?_
  refine AC.seq ?_
  refine AC.region ?_
  refine AL.p (by exact as1 rfl) rfl ?_
  refine AL.nil ?_
  refine th_n ?_
  refine AC.seq ?_
  refine AC.region ?_
  refine AL.p (by exact mv1 rfl) rfl ?_
  refine AL.p (by exact mv1 rfl) rfl ?_
  refine AL.p (by exact g_len_view rfl rfl (by exact List.length_map _)) rfl ?_
  refine AL.p (by exact g_arith rfl rfl rfl (by exact wrap_i64 (by omega))) rfl ?_
  refine AL.p (by exact as1 rfl) rfl ?_
  refine AL.nil ?_
  refine th_n ?_
  refine AC.seq ?_
  refine AC.seq ?_
  refine AC.region ?_
  refine AL.p (by exact mv1 rfl) rfl ?_
  refine AL.p (by exact g_cmp rfl rfl rfl) rfl ?_
  refine AL.nil ?_
  refine th_n ?_
  refine AC.condD rfl (fun h0 => ?_) (fun h0 => ?_)
  · refine AC.seq ?_
    refine AC.region ?_
    refine AL.p (by exact as1 rfl) rfl ?_
    refine AL.nil ?_
    refine th_n ?_
    refine AC.ret ?_
    refine th_r ?_
    refine bq_r ?_
    exact ret1 rfl (by rw [szI, if_pos h0])
  · refine AC.skip ?_
    refine th_n ?_
    refine AC.seq ?_
    refine AC.region ?_
    refine AL.p (by exact mv1 rfl) rfl ?_
    refine AL.p (by exact as1 rfl) rfl ?_
    refine AL.nil ?_
    refine th_n ?_
    refine AC.ret ?_
    refine bq_r ?_
    exact ret1 rfl (by rw [szI, if_neg h0])
theorem en_szLabS : Enters Try.prog 39 := enters_of Try.func39 rfl rfl
set_option maxHeartbeats 1000000 in
theorem szBur_spec (b : Bur) (left : Int) (h : 0 ≤ left ∧ left ≤ 1048576) (h1 : b.inn.length ≤ 9223372036854775807) (h2 : b.out.length ≤ 9223372036854775807) : ASpec Try.prog 27 [burLA b, aI left] [] (Pure1 (aI (szI (szBr b) left))) := by
  have hin := szI_in (n := b.inn.length) h
  have hK1 := szLabS_spec b.inn left h h1
  have hc := szI_c (n := b.inn.length) (m := b.out.length) (left := left)
  have hc0 := szI_c0 (n := b.inn.length) (m := b.out.length) (left := left)
  obtain ⟨a, ha⟩ : ∃ a, a = szI b.inn.length left := ⟨_, rfl⟩
  unfold szBr
  rw [← ha] at hin hK1 hc hc0
  refine ASpec.of Try.func27 rfl rfl fun C hC => ?_
  refine AC.seq ?_
  refine AC.region ?_
  refine AL.q (by exact h_boxF rfl rfl) rfl ?_
  refine AL.p (by exact as1 rfl) rfl ?_
  refine AL.nil ?_
  refine th_n ?_
  refine AC.seq ?_
  refine AC.region ?_
  refine AL.p (by exact g_fa_ref rfl rfl rfl rfl rfl rfl) rfl ?_
  refine AL.p (by exact g_load_ref rfl rfl rfl) rfl ?_
  refine AL.p (by exact mv1 rfl) rfl ?_
  refine AL.q (by exact h_pure en_szLabS rfl rfl (by repeat (first | exact rfl | exact DLead.same | refine ⟨_, _, rfl, ?_, ?_⟩)) hK1 rfl) rfl ?_
  refine AL.p (by exact as1 rfl) rfl ?_
  refine AL.nil ?_
  refine th_n ?_
  refine AC.seq ?_
  refine AC.seq ?_
  refine AC.region ?_
  refine AL.p (by exact mv1 rfl) rfl ?_
  refine AL.p (by exact g_cmp rfl rfl rfl) rfl ?_
  refine AL.nil ?_
  refine th_n ?_
  refine AC.condD rfl (fun h0 => ?_) (fun h0 => ?_)
  · refine AC.seq ?_
    refine AC.region ?_
    refine AL.p (by exact as1 rfl) rfl ?_
    refine AL.nil ?_
    refine th_n ?_
    refine AC.ret ?_
    refine th_r ?_
    refine bq_r ?_
    exact ret1 rfl (by rw [hc0 h0])
  · refine AC.skip ?_
    refine th_n ?_
    refine AC.seq ?_
    have hK2 := szLabS_spec b.out a ⟨by omega, by omega⟩ h2
    have hin2 := szI_in (n := b.out.length) (left := a) ⟨by omega, by omega⟩
    rw [hc (by omega)] at hK2 hin2
    refine AC.region ?_
    refine AL.p (by exact g_fa_ref rfl rfl rfl rfl rfl rfl) rfl ?_
    refine AL.p (by exact g_load_ref rfl rfl rfl) rfl ?_
    refine AL.p (by exact mv1 rfl) rfl ?_
    refine AL.q (by exact h_pure en_szLabS rfl rfl (by repeat (first | exact rfl | exact DLead.same | refine ⟨_, _, rfl, ?_, ?_⟩)) hK2 rfl) rfl ?_
    refine AL.p (by exact as1 rfl) rfl ?_
    refine AL.nil ?_
    refine th_n ?_
    refine AC.seq ?_
    refine AC.seq ?_
    refine AC.region ?_
    refine AL.p (by exact mv1 rfl) rfl ?_
    refine AL.p (by exact g_cmp rfl rfl rfl) rfl ?_
    refine AL.nil ?_
    refine th_n ?_
    refine AC.condD rfl (fun h1 => ?_) (fun h1 => ?_)
    · refine AC.seq ?_
      refine AC.region ?_
      refine AL.p (by exact as1 rfl) rfl ?_
      refine AL.nil ?_
      refine th_n ?_
      refine AC.ret ?_
      refine th_r ?_
      refine bq_r ?_
      exact ret1 rfl (by rw [show szI (b.inn.length + b.out.length) left = -1 by omega])
    · refine AC.skip ?_
      refine th_n ?_
      refine AC.seq ?_
      refine AC.region ?_
      refine AL.p (by exact mv1 rfl) rfl ?_
      refine AL.p (by exact as1 rfl) rfl ?_
      refine AL.nil ?_
      refine th_n ?_
      refine AC.ret ?_
      refine bq_r ?_
      exact ret1 rfl rfl
theorem en_szBur : Enters Try.prog 27 := enters_of Try.func27 rfl rfl
set_option maxHeartbeats 1000000 in
theorem szSigS_spec (l : List Sig) (left : Int) (h : 0 ≤ left ∧ left ≤ 1048576) (hl : l.length ≤ 9223372036854775807) (hb : ∀ t, t ∈ l → t.name.length ≤ 9223372036854775807) : ASpec Try.prog 13 [.d (vLSigs l), aI left] [] (Pure1 (aI (szI (szSgs l) left))) := by
  have htot : szSgs l = l.length + sumL szSg l := rfl
  refine ASpec.of Try.func13 rfl rfl fun C hC => ?_
  refine AC.seq ?_
  refine AC.region ?_
  refine AL.p (by exact as1 rfl) rfl ?_
  refine AL.nil ?_
  refine th_n ?_
  refine AC.seq ?_
  refine AC.region ?_
  refine AL.p (by exact mv1 rfl) rfl ?_
  refine AL.p (by exact mv1 rfl) rfl ?_
  refine AL.p (by exact g_len_view rfl rfl (by exact List.length_map _)) rfl ?_
  refine AL.p (by exact g_arith rfl rfl rfl (by exact wrap_i64 (by omega))) rfl ?_
  refine AL.p (by exact as1 rfl) rfl ?_
  refine AL.nil ?_
  refine th_n ?_
  refine AC.seq ?_
  refine AC.seq ?_
  refine AC.region ?_
  refine AL.p (by exact mv1 rfl) rfl ?_
  refine AL.p (by exact g_cmp rfl rfl rfl) rfl ?_
  refine AL.nil ?_
  refine th_n ?_
  refine AC.condD rfl (fun h0 => ?_) (fun h0 => ?_)
  · refine AC.seq ?_
    refine AC.region ?_
    refine AL.p (by exact as1 rfl) rfl ?_
    refine AL.nil ?_
    refine th_n ?_
    refine AC.ret ?_
    refine th_r ?_
    refine bq_r ?_
    exact ret1 rfl (by rw [szI_neg (n := l.length) h0 (by omega)])
  · refine AC.skip ?_
    refine th_n ?_
    refine AC.seq ?_
    refine AC.seq ?_
    refine AC.region ?_
    refine AL.p (by exact as1 rfl) rfl ?_
    refine AL.nil ?_
    refine th_n ?_
    refine AC.block ?_
    refine AC.loop (ι := Nat) (fun k => ⟨27, 0, [(0, .d (vLSigs l)), (1, aI (left - (l.length + sumL szSg (l.take k) : Nat))), (5, aI k)], []⟩) (fun k => k ≤ l.length ∧ 0 ≤ left - (l.length + sumL szSg (l.take k) : Nat)) (fun k => l.length - k) (0) ?_ (⟨Nat.zero_le _, by have : sumL szSg (l.take 0) = 0 := rfl; omega⟩) ?_
    · have hs0 : sumL szSg (l.take 0) = 0 := rfl
      exact Weak.ren _ [] hC rfl (by repeat (first | exact True.intro | refine And.intro ?_ ?_ | exact DLead.same)) (by repeat (exact True.intro)) rfl rfl rfl
    · rintro k ⟨hk, hlf⟩
      refine AC.seq ?_
      refine AC.seq ?_
      refine AC.region ?_
      refine AL.p (by exact mv1 rfl) rfl ?_
      refine AL.p (by exact mv1 rfl) rfl ?_
      refine AL.p (by exact g_len_view rfl rfl (by exact List.length_map _)) rfl ?_
      refine AL.p (by exact g_cmp rfl rfl rfl) rfl ?_
      refine AL.nil ?_
      refine th_n ?_
      refine AC.condD rfl (fun h1 => ?_) (fun h1 => ?_)
      · refine AC.skip ?_
        refine th_n ?_
        refine AC.seq ?_
        refine AC.block ?_
        refine AC.seq ?_
        have hk1 : k < l.length := by omega
        have hget := sigsL_get hk1
        have hbk := hb _ (List.getElem_mem hk1)
        have hsum := sumL_take (wt := szSg) hk1
        have hle := sumL_le szSg l (k + 1)
        have hK := szSig_spec l[k] (left - (l.length + sumL szSg (l.take k) : Nat)) ⟨hlf, by omega⟩ hbk
        have hin := szI_in (n := szSg l[k]) (left := left - (l.length + sumL szSg (l.take k) : Nat)) ⟨hlf, by omega⟩
        have hpos := szI_pos (n := szSg l[k]) (left := left - (l.length + sumL szSg (l.take k) : Nat))
        obtain ⟨a, ha⟩ : ∃ a, a = szI (szSg l[k]) (left - (l.length + sumL szSg (l.take k) : Nat)) := ⟨_, rfl⟩
        have hna : a < 0 → left - (l.length + sumL szSg (l.take (k + 1)) : Nat) < 0 := fun hx => by rw [ha] at hx; unfold szI at hx; split at hx <;> omega
        rw [← ha] at hK hin hpos
        refine AC.region ?_
        refine AL.p (by exact mv1 rfl) rfl ?_
        refine AL.p (by exact mv1 rfl) rfl ?_
        refine AL.p (by exact g_ia_view rfl rfl rfl rfl rfl (by rfl) (by assumption)) rfl ?_
        refine AL.p (by exact g_load_refN rfl rfl rfl rfl) rfl ?_
        refine AL.p (by exact mv1 rfl) rfl ?_
        refine AL.q (by exact h_pure en_szSig rfl rfl (by repeat (first | exact rfl | exact DLead.same | refine ⟨_, _, rfl, ?_, ?_⟩ | refine ⟨_, rfl, ?_⟩)) hK rfl) rfl ?_
        refine AL.p (by exact as1 rfl) rfl ?_
        refine AL.nil ?_
        refine th_n ?_
        refine AC.seq ?_
        refine AC.region ?_
        refine AL.p (by exact mv1 rfl) rfl ?_
        refine AL.p (by exact g_cmp rfl rfl rfl) rfl ?_
        refine AL.nil ?_
        refine th_n ?_
        refine AC.condD rfl (fun h2 => ?_) (fun h2 => ?_)
        · refine AC.seq ?_
          refine AC.region ?_
          refine AL.p (by exact as1 rfl) rfl ?_
          refine AL.nil ?_
          refine th_n ?_
          refine AC.ret ?_
          refine ib_r ?_
          refine th_r ?_
          refine th_r ?_
          refine ib_r ?_
          refine th_r ?_
          refine bq_r ?_
          exact ret1 rfl (by rw [szI_neg (n := l.length + sumL szSg (l.take (k + 1))) (hna h2) (by omega)])
        · refine AC.skip ?_
          refine ib_n ?_
          refine th_n ?_
          refine AC.region ?_
          refine AL.p (by exact mv1 rfl) rfl ?_
          refine AL.p (by exact g_arith rfl rfl rfl (by exact wrap_i64 (by omega))) rfl ?_
          refine AL.p (by exact as1 rfl) rfl ?_
          refine AL.nil ?_
          refine th_n ?_
          exact ⟨k + 1, ⟨by omega, by have := hpos (by omega); omega⟩, by omega, Weak.ren _ [] hC rfl (by rw [show left - (l.length + sumL szSg (l.take (k + 1)) : Nat) = a by have := hpos (by omega); omega]; repeat (first | exact True.intro | refine And.intro ?_ ?_ | exact DLead.same)) (by repeat (exact True.intro)) rfl rfl rfl⟩
      · refine AC.exit ?_
        refine th_e ?_
        refine th_e ?_
        refine ib_y ?_
        refine th_n ?_
        refine AC.seq ?_
        refine AC.region ?_
        refine AL.p (by exact mv1 rfl) rfl ?_
        refine AL.p (by exact as1 rfl) rfl ?_
        refine AL.nil ?_
        refine th_n ?_
        refine AC.ret ?_
        refine bq_r ?_
        have hkk : k = l.length := by omega
        rw [hkk, List.take_length]
        rw [hkk, List.take_length] at hlf
        exact ret1 rfl (by rw [htot, szI, if_neg (by omega)])
theorem en_szSigS : Enters Try.prog 13 := enters_of Try.func13 rfl rfl
set_option maxHeartbeats 1000000 in
theorem szBurS_spec (l : List Bur) (left : Int) (h : 0 ≤ left ∧ left ≤ 1048576) (hl : l.length ≤ 9223372036854775807) (hb : ∀ t, t ∈ l → t.inn.length ≤ 9223372036854775807 ∧ t.out.length ≤ 9223372036854775807) : ASpec Try.prog 14 [.d (vLBurs l), aI left] [] (Pure1 (aI (szI (szBrs l) left))) := by
  have htot : szBrs l = l.length + sumL szBr l := rfl
  refine ASpec.of Try.func14 rfl rfl fun C hC => ?_
  refine AC.seq ?_
  refine AC.region ?_
  refine AL.p (by exact as1 rfl) rfl ?_
  refine AL.nil ?_
  refine th_n ?_
  refine AC.seq ?_
  refine AC.region ?_
  refine AL.p (by exact mv1 rfl) rfl ?_
  refine AL.p (by exact mv1 rfl) rfl ?_
  refine AL.p (by exact g_len_view rfl rfl (by exact List.length_map _)) rfl ?_
  refine AL.p (by exact g_arith rfl rfl rfl (by exact wrap_i64 (by omega))) rfl ?_
  refine AL.p (by exact as1 rfl) rfl ?_
  refine AL.nil ?_
  refine th_n ?_
  refine AC.seq ?_
  refine AC.seq ?_
  refine AC.region ?_
  refine AL.p (by exact mv1 rfl) rfl ?_
  refine AL.p (by exact g_cmp rfl rfl rfl) rfl ?_
  refine AL.nil ?_
  refine th_n ?_
  refine AC.condD rfl (fun h0 => ?_) (fun h0 => ?_)
  · refine AC.seq ?_
    refine AC.region ?_
    refine AL.p (by exact as1 rfl) rfl ?_
    refine AL.nil ?_
    refine th_n ?_
    refine AC.ret ?_
    refine th_r ?_
    refine bq_r ?_
    exact ret1 rfl (by rw [szI_neg (n := l.length) h0 (by omega)])
  · refine AC.skip ?_
    refine th_n ?_
    refine AC.seq ?_
    refine AC.seq ?_
    refine AC.region ?_
    refine AL.p (by exact as1 rfl) rfl ?_
    refine AL.nil ?_
    refine th_n ?_
    refine AC.block ?_
    refine AC.loop (ι := Nat) (fun k => ⟨27, 0, [(0, .d (vLBurs l)), (1, aI (left - (l.length + sumL szBr (l.take k) : Nat))), (5, aI k)], []⟩) (fun k => k ≤ l.length ∧ 0 ≤ left - (l.length + sumL szBr (l.take k) : Nat)) (fun k => l.length - k) (0) ?_ (⟨Nat.zero_le _, by have : sumL szBr (l.take 0) = 0 := rfl; omega⟩) ?_
    · have hs0 : sumL szBr (l.take 0) = 0 := rfl
      exact Weak.ren _ [] hC rfl (by repeat (first | exact True.intro | refine And.intro ?_ ?_ | exact DLead.same)) (by repeat (exact True.intro)) rfl rfl rfl
    · rintro k ⟨hk, hlf⟩
      refine AC.seq ?_
      refine AC.seq ?_
      refine AC.region ?_
      refine AL.p (by exact mv1 rfl) rfl ?_
      refine AL.p (by exact mv1 rfl) rfl ?_
      refine AL.p (by exact g_len_view rfl rfl (by exact List.length_map _)) rfl ?_
      refine AL.p (by exact g_cmp rfl rfl rfl) rfl ?_
      refine AL.nil ?_
      refine th_n ?_
      refine AC.condD rfl (fun h1 => ?_) (fun h1 => ?_)
      · refine AC.skip ?_
        refine th_n ?_
        refine AC.seq ?_
        refine AC.block ?_
        refine AC.seq ?_
        have hk1 : k < l.length := by omega
        have hget := bursLL_get hk1
        have hbk := hb _ (List.getElem_mem hk1)
        have hsum := sumL_take (wt := szBr) hk1
        have hle := sumL_le szBr l (k + 1)
        have hK := szBur_spec l[k] (left - (l.length + sumL szBr (l.take k) : Nat)) ⟨hlf, by omega⟩ hbk.1 hbk.2
        have hin := szI_in (n := szBr l[k]) (left := left - (l.length + sumL szBr (l.take k) : Nat)) ⟨hlf, by omega⟩
        have hpos := szI_pos (n := szBr l[k]) (left := left - (l.length + sumL szBr (l.take k) : Nat))
        obtain ⟨a, ha⟩ : ∃ a, a = szI (szBr l[k]) (left - (l.length + sumL szBr (l.take k) : Nat)) := ⟨_, rfl⟩
        have hna : a < 0 → left - (l.length + sumL szBr (l.take (k + 1)) : Nat) < 0 := fun hx => by rw [ha] at hx; unfold szI at hx; split at hx <;> omega
        rw [← ha] at hK hin hpos
        refine AC.region ?_
        refine AL.p (by exact mv1 rfl) rfl ?_
        refine AL.p (by exact mv1 rfl) rfl ?_
        refine AL.p (by exact g_ia_view rfl rfl rfl rfl rfl (by rfl) (by assumption)) rfl ?_
        refine AL.p (by exact g_load_refN rfl rfl rfl rfl) rfl ?_
        refine AL.p (by exact mv1 rfl) rfl ?_
        refine AL.q (by exact h_pure en_szBur rfl rfl (by repeat (first | exact rfl | exact DLead.same | refine ⟨_, _, rfl, ?_, ?_⟩ | refine ⟨_, rfl, ?_⟩)) hK rfl) rfl ?_
        refine AL.p (by exact as1 rfl) rfl ?_
        refine AL.nil ?_
        refine th_n ?_
        refine AC.seq ?_
        refine AC.region ?_
        refine AL.p (by exact mv1 rfl) rfl ?_
        refine AL.p (by exact g_cmp rfl rfl rfl) rfl ?_
        refine AL.nil ?_
        refine th_n ?_
        refine AC.condD rfl (fun h2 => ?_) (fun h2 => ?_)
        · refine AC.seq ?_
          refine AC.region ?_
          refine AL.p (by exact as1 rfl) rfl ?_
          refine AL.nil ?_
          refine th_n ?_
          refine AC.ret ?_
          refine ib_r ?_
          refine th_r ?_
          refine th_r ?_
          refine ib_r ?_
          refine th_r ?_
          refine bq_r ?_
          exact ret1 rfl (by rw [szI_neg (n := l.length + sumL szBr (l.take (k + 1))) (hna h2) (by omega)])
        · refine AC.skip ?_
          refine ib_n ?_
          refine th_n ?_
          refine AC.region ?_
          refine AL.p (by exact mv1 rfl) rfl ?_
          refine AL.p (by exact g_arith rfl rfl rfl (by exact wrap_i64 (by omega))) rfl ?_
          refine AL.p (by exact as1 rfl) rfl ?_
          refine AL.nil ?_
          refine th_n ?_
          exact ⟨k + 1, ⟨by omega, by have := hpos (by omega); omega⟩, by omega, Weak.ren _ [] hC rfl (by rw [show left - (l.length + sumL szBr (l.take (k + 1)) : Nat) = a by have := hpos (by omega); omega]; repeat (first | exact True.intro | refine And.intro ?_ ?_ | exact DLead.same)) (by repeat (exact True.intro)) rfl rfl rfl⟩
      · refine AC.exit ?_
        refine th_e ?_
        refine th_e ?_
        refine ib_y ?_
        refine th_n ?_
        refine AC.seq ?_
        refine AC.region ?_
        refine AL.p (by exact mv1 rfl) rfl ?_
        refine AL.p (by exact as1 rfl) rfl ?_
        refine AL.nil ?_
        refine th_n ?_
        refine AC.ret ?_
        refine bq_r ?_
        have hkk : k = l.length := by omega
        rw [hkk, List.take_length]
        rw [hkk, List.take_length] at hlf
        exact ret1 rfl (by rw [htot, szI, if_neg (by omega)])
theorem en_szBurS : Enters Try.prog 14 := enters_of Try.func14 rfl rfl
structure ArgM (m : Mach) : Prop where
  s : m.sigs.length ≤ 9223372036854775807
  sn : ∀ t, t ∈ m.sigs → t.name.length ≤ 9223372036854775807
  st : okI m.states
  b : m.burs.length ≤ 9223372036854775807
  bl : ∀ t, t ∈ m.burs → t.inn.length ≤ 9223372036854775807 ∧ t.out.length ≤ 9223372036854775807
  f : m.first.length ≤ 9223372036854775807
set_option maxHeartbeats 1000000 in
theorem szMach_spec (m : Mach) (left : Int) (h : 0 ≤ left ∧ left ≤ 1048576) (hm : ArgM m) : ASpec Try.prog 4 [machLA m, aI left] [] (Pure1 (aI (szI (szMc m) left))) := by
  have hsz := bstr_size m.first
  have hfl := hm.f
  have hin := szI_in (n := szSgs m.sigs) h
  have hK1 := szSigS_spec m.sigs left h hm.s hm.sn
  have hc := szI_c (n := szSgs m.sigs) (m := szBrs m.burs) (left := left)
  have hc0 := szI_c0 (n := szSgs m.sigs) (m := szBrs m.burs + m.first.length) (left := left)
  have hd := szI_pos (n := szSgs m.sigs + szBrs m.burs) (left := left)
  have hd0 := szI_c0 (n := szSgs m.sigs + szBrs m.burs) (m := m.first.length) (left := left)
  have htot : szMc m = szSgs m.sigs + szBrs m.burs + m.first.length := rfl
  obtain ⟨a, ha⟩ : ∃ a, a = szI (szSgs m.sigs) left := ⟨_, rfl⟩
  rw [← ha] at hin hK1 hc hc0
  refine ASpec.of Try.func4 rfl rfl fun C hC => ?_
  refine AC.seq ?_
  refine AC.region ?_
  refine AL.q (by exact h_boxF rfl rfl) rfl ?_
  refine AL.p (by exact as1 rfl) rfl ?_
  refine AL.nil ?_
  refine th_n ?_
  refine AC.seq ?_
  refine AC.region ?_
  refine AL.p (by exact g_fa_ref rfl rfl rfl rfl rfl rfl) rfl ?_
  refine AL.p (by exact g_load_ref rfl rfl rfl) rfl ?_
  refine AL.p (by exact mv1 rfl) rfl ?_
  refine AL.q (by exact h_pure en_szSigS rfl rfl (by repeat (first | exact rfl | exact DLead.same | refine ⟨_, _, rfl, ?_, ?_⟩)) hK1 rfl) rfl ?_
  refine AL.p (by exact as1 rfl) rfl ?_
  refine AL.nil ?_
  refine th_n ?_
  refine AC.seq ?_
  refine AC.seq ?_
  refine AC.region ?_
  refine AL.p (by exact mv1 rfl) rfl ?_
  refine AL.p (by exact g_cmp rfl rfl rfl) rfl ?_
  refine AL.nil ?_
  refine th_n ?_
  refine AC.condD rfl (fun h0 => ?_) (fun h0 => ?_)
  · refine AC.seq ?_
    refine AC.region ?_
    refine AL.p (by exact as1 rfl) rfl ?_
    refine AL.nil ?_
    refine th_n ?_
    refine AC.ret ?_
    refine th_r ?_
    refine bq_r ?_
    exact ret1 rfl (by rw [htot, Nat.add_assoc, hc0 h0])
  · refine AC.skip ?_
    refine th_n ?_
    refine AC.seq ?_
    have hK2 := szBurS_spec m.burs a ⟨by omega, by omega⟩ hm.b hm.bl
    have hin2 := szI_in (n := szBrs m.burs) (left := a) ⟨by omega, by omega⟩
    rw [hc (by omega)] at hK2 hin2
    obtain ⟨b, hb⟩ : ∃ b, b = szI (szSgs m.sigs + szBrs m.burs) left := ⟨_, rfl⟩
    rw [← hb] at hK2 hin2 hd hd0
    refine AC.region ?_
    refine AL.p (by exact g_fa_ref rfl rfl rfl rfl rfl rfl) rfl ?_
    refine AL.p (by exact g_load_ref rfl rfl rfl) rfl ?_
    refine AL.p (by exact mv1 rfl) rfl ?_
    refine AL.q (by exact h_pure en_szBurS rfl rfl (by repeat (first | exact rfl | exact DLead.same | refine ⟨_, _, rfl, ?_, ?_⟩)) hK2 rfl) rfl ?_
    refine AL.p (by exact as1 rfl) rfl ?_
    refine AL.nil ?_
    refine th_n ?_
    refine AC.seq ?_
    refine AC.seq ?_
    refine AC.region ?_
    refine AL.p (by exact mv1 rfl) rfl ?_
    refine AL.p (by exact g_cmp rfl rfl rfl) rfl ?_
    refine AL.nil ?_
    refine th_n ?_
    refine AC.condD rfl (fun h1 => ?_) (fun h1 => ?_)
    · refine AC.seq ?_
      refine AC.region ?_
      refine AL.p (by exact as1 rfl) rfl ?_
      refine AL.nil ?_
      refine th_n ?_
      refine AC.ret ?_
      refine th_r ?_
      refine bq_r ?_
      exact ret1 rfl (by rw [htot, hd0 h1])
    · refine AC.skip ?_
      refine th_n ?_
      refine AC.seq ?_
      refine AC.region ?_
      refine AL.p (by exact mv1 rfl) rfl ?_
      refine AL.p (by exact g_fa_ref rfl rfl rfl rfl rfl rfl) rfl ?_
      refine AL.p (by exact g_load_ref rfl rfl rfl) rfl ?_
      refine AL.p (by exact g_len_str rfl rfl rfl) rfl ?_
      refine AL.p (by exact g_arith rfl rfl rfl (by exact wrap_i64 (by omega))) rfl ?_
      refine AL.p (by exact as1 rfl) rfl ?_
      refine AL.nil ?_
      refine th_n ?_
      refine AC.seq ?_
      refine AC.seq ?_
      refine AC.region ?_
      refine AL.p (by exact mv1 rfl) rfl ?_
      refine AL.p (by exact g_cmp rfl rfl rfl) rfl ?_
      refine AL.nil ?_
      refine th_n ?_
      refine AC.condD rfl (fun h2 => ?_) (fun h2 => ?_)
      · refine AC.seq ?_
        refine AC.region ?_
        refine AL.p (by exact as1 rfl) rfl ?_
        refine AL.nil ?_
        refine th_n ?_
        refine AC.ret ?_
        refine th_r ?_
        refine bq_r ?_
        have := hd (by omega)
        exact ret1 rfl (by rw [htot, szI, if_pos (by omega)])
      · refine AC.skip ?_
        refine th_n ?_
        refine AC.seq ?_
        refine AC.region ?_
        refine AL.p (by exact mv1 rfl) rfl ?_
        refine AL.p (by exact as1 rfl) rfl ?_
        refine AL.nil ?_
        refine th_n ?_
        refine AC.ret ?_
        refine bq_r ?_
        have := hd (by omega)
        exact ret1 rfl (by rw [htot, szI, if_neg (by omega), show left - ((szSgs m.sigs + szBrs m.burs + m.first.length : Nat) : Int) = b - (bstr m.first).size by omega])
theorem en_szMach : Enters Try.prog 4 := enters_of Try.func4 rfl rfl
end Go.Proofs.Ytbmlfcjoeieibaa

set_option maxRecDepth 100000
set_option linter.all false
set_option maxRecDepth 20000
namespace Go.Proofs.Ytbmlfcjoeieibaa
open Go.ChangeShapes Go.WideShapes Go.ChangeAt Go.RowKit

section
variable {H : Type} {enc : TypeId × Value → H}
theorem rt_bool : RT enc Try.prog 4 1 (fun b : Bool => [dT b]) (fun _ => True) := RT.bool Try.underlying4
theorem rt_sig : RT enc Try.prog 56 2 (fun s : Sig => sigD s) (fun s => s.name.length ≤ 9223372036854775807) :=
  RT.struct2 (k1 := 1) (k2 := 1) (fun a b => (⟨a, b⟩ : Sig)) Try.underlying56 rfl rfl (by kernel_rfl) (by kernel_rfl) (by kernel_rfl) rt_str rt_int (fun _ _ => rfl) (fun _ _ h1 _ => h1)
theorem rt_sigs : RT enc Try.prog 22 1 (fun l : List Sig => [vLSigs l]) (fun l => l.length ≤ 9223372036854775807 ∧ ∀ t, t ∈ l → t.name.length ≤ 9223372036854775807) :=
  RT.slice 56 Try.underlying22 (by kernel_rfl) (by decide) rt_sig
theorem rt_lab : RT enc Try.prog 91 2 (fun s : Lab => labD s) (fun _ => True) :=
  RT.struct2 (k1 := 1) (k2 := 1) (fun a b => (⟨a, b⟩ : Lab)) Try.underlying91 rfl rfl (by kernel_rfl) (by kernel_rfl) (by kernel_rfl) rt_int rt_bool (fun _ _ => rfl) (fun _ _ _ _ => trivial)
theorem rt_labs : RT enc Try.prog 58 1 (fun l : List Lab => [vLLabs l]) (fun l => l.length ≤ 9223372036854775807) :=
  (RT.slice 91 Try.underlying58 (by kernel_rfl) (by decide) rt_lab).imp id (fun _ _ => rfl) (fun _ h => h.1)
theorem rt_bur : RT enc Try.prog 60 4 (fun b : Bur => burLD b) (fun b => b.inn.length ≤ 9223372036854775807 ∧ b.out.length ≤ 9223372036854775807) :=
  RT.struct4 (fun a b c d => (⟨a, b, c, d⟩ : Bur)) Try.underlying60 rfl rfl rfl rfl (by kernel_rfl) (by kernel_rfl) (by kernel_rfl) (by kernel_rfl) (by kernel_rfl) rt_int rt_labs rt_labs rt_int (fun _ _ _ _ => rfl) (fun _ _ _ _ _ h1 h2 _ => ⟨h1, h2⟩)
theorem rt_burs : RT enc Try.prog 23 1 (fun l : List Bur => [vLBurs l]) (fun l => l.length ≤ 9223372036854775807 ∧ ∀ t, t ∈ l → t.inn.length ≤ 9223372036854775807 ∧ t.out.length ≤ 9223372036854775807) :=
  RT.slice 60 Try.underlying23 (by kernel_rfl) (by decide) rt_bur
theorem rt_mach : RT enc Try.prog 25 4 (fun m : Mach => machLD m) ArgM :=
  RT.struct4 (fun a b c d => (⟨a, b, c, d⟩ : Mach)) Try.underlying25 rfl rfl rfl rfl (by kernel_rfl) (by kernel_rfl) (by kernel_rfl) (by kernel_rfl) (by kernel_rfl) rt_sigs rt_int rt_burs rt_str (fun _ _ _ _ => rfl) (fun _ _ _ _ h1 h2 h3 h4 => ⟨h1.1, h1.2, h2, h3.1, h3.2, h4⟩)
theorem arg_mach {m : Nat → Option (Option Nat × Nat)} {base : Nat} {W : World} {v : Value} {d : DataW H} {ps : List MemPlace} (hv : Value.okWide Try.prog W .any base 25 v) (h : DataW.Trod enc Try.prog W 0 (fun _ => true) true 25 v d ps) : ∃ u : Mach, ArgM u ∧ ARep m (fun k => k < W.heap.size) W (machLA u) v := by
  obtain ⟨cs, rfl, _⟩ := okWide_struct Try.underlying25 hv
  exact rt_mach.argS h
end
end Go.Proofs.Ytbmlfcjoeieibaa

set_option linter.all false
set_option maxRecDepth 20000
namespace Go.Proofs.Ytbmlfcjoeieibaa
open Go.RowKit

set_option maxHeartbeats 1000000 in
theorem toSig_spec (x : Sig)  : ASpec Try.prog 32 [sigA x] [] (Pure1 (sigA x)) := by
  refine ASpec.of Try.func32 rfl rfl fun C hC => ?_
  refine AC.seq ?_
  refine AC.region ?_
  refine AL.q (by exact h_boxF rfl rfl) rfl ?_
  refine AL.q (by exact h_alloc rfl) rfl ?_
  refine AL.nil ?_
  refine th_n ?_
  refine AC.seq ?_
  refine AC.region ?_
  refine AL.q (by exact h_alloc rfl) rfl ?_
  refine AL.nil ?_
  refine th_n ?_
  refine AC.seq ?_
  refine AC.region ?_
  refine AL.p (by exact g_fa_ref rfl rfl rfl rfl rfl rfl) rfl ?_
  refine AL.p (by exact g_load_ref rfl rfl rfl) rfl ?_
  refine AL.p (by exact g_fa_ptr rfl rfl rfl rfl rfl) rfl ?_
  refine AL.q (by exact h_store rfl rfl rfl rfl rfl rfl) rfl ?_
  refine AL.nil ?_
  refine th_n ?_
  refine AC.seq ?_
  refine AC.region ?_
  refine AL.p (by exact g_fa_ref rfl rfl rfl rfl rfl rfl) rfl ?_
  refine AL.p (by exact g_load_ref rfl rfl rfl) rfl ?_
  refine AL.p (by exact g_fa_ptr rfl rfl rfl rfl rfl) rfl ?_
  refine AL.q (by exact h_store rfl rfl rfl rfl rfl rfl) rfl ?_
  refine AL.nil ?_
  refine th_n ?_
  refine AC.seq ?_
  refine AC.region ?_
  refine AL.p (by exact g_load_ptrN rfl rfl rfl rfl rfl) rfl ?_
  refine AL.q (by exact h_store rfl rfl rfl rfl rfl rfl) rfl ?_
  refine AL.nil ?_
  refine th_n ?_
  refine AC.ret ?_
  refine bq_r ?_
  exact ret0 rfl (by repeat (first | exact DLead.same | exact rfl | refine ⟨_, rfl, ?_⟩ | refine ⟨_, _, rfl, ?_, ?_⟩))
theorem en_toSig : Enters Try.prog 32 := enters_of Try.func32 rfl rfl
set_option maxHeartbeats 2000000 in
theorem toSigS_spec (l : List Sig) (hl : l.length ≤ 1048576) : ASpec Try.prog 17 [.d (vLSigs l)] [] (Pure1 (.d (vSigs l))) := by
  have hrl : (sigsL l).length = l.length := List.length_map _
  refine ASpec.of Try.func17 rfl rfl fun C hC => ?_
  refine AC.seq ?_
  refine AC.region ?_
  refine AL.p (by exact as1 rfl) rfl ?_
  refine AL.nil ?_
  refine th_n ?_
  refine AC.seq ?_
  refine AC.region ?_
  refine AL.p (by exact mv1 rfl) rfl ?_
  refine AL.p (by exact g_len_view rfl rfl (by exact List.length_map _)) rfl ?_
  refine AL.q (by exact h_make (k := l.length) rfl rfl rfl rfl rfl rfl rfl rfl (by show 24 * l.length ≤ _; omega) (by omega)) rfl ?_
  refine AL.p (by exact as2 rfl) rfl ?_
  refine AL.nil ?_
  refine th_n ?_
  refine AC.seq ?_
  refine AC.seq ?_
  refine AC.region ?_
  refine AL.p (by exact as1 rfl) rfl ?_
  refine AL.nil ?_
  refine th_n ?_
  refine AC.block ?_
  refine AC.loop (ι := Nat) (fun k => ⟨23, 108, [(0, .d (vLSigs l)), (3, .own 100 l.length), (4, aI k)], [(100, some (.arr 66 2 (fillR (sigsL l) [dS (bstr []), dI 0] k)))]⟩) (fun k => k ≤ l.length) (fun k => l.length - k) (0) ?_ (Nat.zero_le _) ?_
  · exact Weak.ren _ [(100, _)] hC rfl (by repeat (first | exact True.intro | refine And.intro ?_ ?_ | exact DLead.same | exact rfl | refine ⟨_, rfl, ?_⟩)) (by rw [fill_zero, hrl]; repeat (first | exact True.intro | refine And.intro ?_ ?_ | exact rfl | refine ⟨_, _, rfl, rfl, ?_⟩)) rfl rfl rfl
  · intro k hk
    refine AC.seq ?_
    refine AC.seq ?_
    refine AC.region ?_
    refine AL.p (by exact mv1 rfl) rfl ?_
    refine AL.p (by exact mv1 rfl) rfl ?_
    refine AL.p (by exact g_len_view rfl rfl (by exact List.length_map _)) rfl ?_
    refine AL.p (by exact g_cmp rfl rfl rfl) rfl ?_
    refine AL.nil ?_
    refine th_n ?_
    refine AC.condD rfl (fun h0 => ?_) (fun h0 => ?_)
    · refine AC.skip ?_
      refine th_n ?_
      refine AC.seq ?_
      refine AC.block ?_
      have hk1 : k < l.length := by omega
      have hget := sigsL_get hk1
      have hget2 := sigsL_get hk1
      have hfl := fill_len (sigsL l) [dS (bstr []), dI 0] (k := k) (by omega)
      have hst := fill_set (R := sigsL l) (z := [dS (bstr []), dI 0]) (k := k) (by omega) hget2
      refine AC.region ?_
      refine AL.p (by exact mv2 rfl) rfl ?_
      refine AL.p (by exact mv1 rfl) rfl ?_
      refine AL.p (by exact mv1 rfl) rfl ?_
      refine AL.p (by exact mv1 rfl) rfl ?_
      refine AL.p (by exact g_ia_view rfl rfl rfl rfl rfl (by rfl) (by assumption)) rfl ?_
      refine AL.p (by exact g_load_refN rfl rfl rfl rfl) rfl ?_
      refine AL.q (by exact h_pure en_toSig rfl rfl (by repeat (first | exact rfl | exact DLead.same | refine ⟨_, _, rfl, ?_, ?_⟩ | refine ⟨_, rfl, ?_⟩)) (toSig_spec _) rfl) rfl ?_
      refine AL.p (by exact g_ia_own rfl rfl rfl rfl rfl (by rfl) (by omega) (by rfl)) rfl ?_
      refine AL.q (by exact h_store_row (i := k) (ds := sigD l[k]) rfl rfl rfl rfl rfl rfl rfl (by omega)) rfl ?_
      refine AL.nil ?_
      refine ib_n ?_
      refine th_n ?_
      refine AC.region ?_
      refine AL.p (by exact mv1 rfl) rfl ?_
      refine AL.p (by exact g_arith rfl rfl rfl (by exact wrap_i64 (by omega))) rfl ?_
      refine AL.p (by exact as1 rfl) rfl ?_
      refine AL.nil ?_
      refine th_n ?_
      exact ⟨k + 1, by omega, by omega, Weak.ren _ [(100, _)] hC rfl (by repeat (first | exact True.intro | refine And.intro ?_ ?_ | exact DLead.same | exact rfl | refine ⟨_, rfl, ?_⟩)) (by rw [← hst]; repeat (first | exact True.intro | refine And.intro ?_ ?_ | exact rfl | refine ⟨_, _, rfl, rfl, ?_⟩)) rfl rfl rfl⟩
    · refine AC.exit ?_
      refine th_e ?_
      refine th_e ?_
      refine ib_y ?_
      refine th_n ?_
      refine AC.seq ?_
      have hkk : k = l.length := by omega
      have hfa := fill_all (sigsL l) [dS (bstr []), dI 0]
      rw [hrl] at hfa
      rw [hkk, hfa]
      refine AC.weak (Weak.freeze (els' := sigsL l) (i := 3) rfl rfl (by omega) (List.take_of_length_le (by omega))) ?_
      refine AC.region ?_
      refine AL.p (by exact mv1 rfl) rfl ?_
      refine AL.p (by exact as1 rfl) rfl ?_
      refine AL.nil ?_
      refine th_n ?_
      refine AC.ret ?_
      refine bq_r ?_
      exact ret1 rfl rfl
theorem en_toSigS : Enters Try.prog 17 := enters_of Try.func17 rfl rfl
set_option maxHeartbeats 1000000 in
theorem toLab_spec (x : Lab)  : ASpec Try.prog 57 [labA x] [] (Pure1 (labA x)) := by
  refine ASpec.of Try.func57 rfl rfl fun C hC => ?_
  refine AC.seq ?_
  refine AC.region ?_
  refine AL.q (by exact h_boxF rfl rfl) rfl ?_
  refine AL.q (by exact h_alloc rfl) rfl ?_
  refine AL.nil ?_
  refine th_n ?_
  refine AC.seq ?_
  refine AC.region ?_
  refine AL.q (by exact h_alloc rfl) rfl ?_
  refine AL.nil ?_
  refine th_n ?_
  refine AC.seq ?_
  refine AC.region ?_
  refine AL.p (by exact g_fa_ref rfl rfl rfl rfl rfl rfl) rfl ?_
  refine AL.p (by exact g_load_ref rfl rfl rfl) rfl ?_
  refine AL.p (by exact g_fa_ptr rfl rfl rfl rfl rfl) rfl ?_
  refine AL.q (by exact h_store rfl rfl rfl rfl rfl rfl) rfl ?_
  refine AL.nil ?_
  refine th_n ?_
  refine AC.seq ?_
  refine AC.region ?_
  refine AL.p (by exact g_fa_ref rfl rfl rfl rfl rfl rfl) rfl ?_
  refine AL.p (by exact g_load_ref rfl rfl rfl) rfl ?_
  refine AL.p (by exact g_fa_ptr rfl rfl rfl rfl rfl) rfl ?_
  refine AL.q (by exact h_store rfl rfl rfl rfl rfl rfl) rfl ?_
  refine AL.nil ?_
  refine th_n ?_
  refine AC.seq ?_
  refine AC.region ?_
  refine AL.p (by exact g_load_ptrN rfl rfl rfl rfl rfl) rfl ?_
  refine AL.q (by exact h_store rfl rfl rfl rfl rfl rfl) rfl ?_
  refine AL.nil ?_
  refine th_n ?_
  refine AC.ret ?_
  refine bq_r ?_
  exact ret0 rfl (by repeat (first | exact DLead.same | exact rfl | refine ⟨_, rfl, ?_⟩ | refine ⟨_, _, rfl, ?_, ?_⟩))
theorem en_toLab : Enters Try.prog 57 := enters_of Try.func57 rfl rfl
set_option maxHeartbeats 2000000 in
theorem toLabS_spec (l : List Lab) (hl : l.length ≤ 1048576) : ASpec Try.prog 44 [.d (vLLabs l)] [] (Pure1 (.d (vLabs l))) := by
  have hrl : (labsL l).length = l.length := List.length_map _
  refine ASpec.of Try.func44 rfl rfl fun C hC => ?_
  refine AC.seq ?_
  refine AC.region ?_
  refine AL.p (by exact as1 rfl) rfl ?_
  refine AL.nil ?_
  refine th_n ?_
  refine AC.seq ?_
  refine AC.region ?_
  refine AL.p (by exact mv1 rfl) rfl ?_
  refine AL.p (by exact g_len_view rfl rfl (by exact List.length_map _)) rfl ?_
  refine AL.q (by exact h_make (k := l.length) rfl rfl rfl rfl rfl rfl rfl rfl (by show 16 * l.length ≤ _; omega) (by omega)) rfl ?_
  refine AL.p (by exact as2 rfl) rfl ?_
  refine AL.nil ?_
  refine th_n ?_
  refine AC.seq ?_
  refine AC.seq ?_
  refine AC.region ?_
  refine AL.p (by exact as1 rfl) rfl ?_
  refine AL.nil ?_
  refine th_n ?_
  refine AC.block ?_
  refine AC.loop (ι := Nat) (fun k => ⟨23, 108, [(0, .d (vLLabs l)), (3, .own 100 l.length), (4, aI k)], [(100, some (.arr 80 2 (fillR (labsL l) [dI 0, dT false] k)))]⟩) (fun k => k ≤ l.length) (fun k => l.length - k) (0) ?_ (Nat.zero_le _) ?_
  · exact Weak.ren _ [(100, _)] hC rfl (by repeat (first | exact True.intro | refine And.intro ?_ ?_ | exact DLead.same | exact rfl | refine ⟨_, rfl, ?_⟩)) (by rw [fill_zero, hrl]; repeat (first | exact True.intro | refine And.intro ?_ ?_ | exact rfl | refine ⟨_, _, rfl, rfl, ?_⟩)) rfl rfl rfl
  · intro k hk
    refine AC.seq ?_
    refine AC.seq ?_
    refine AC.region ?_
    refine AL.p (by exact mv1 rfl) rfl ?_
    refine AL.p (by exact mv1 rfl) rfl ?_
    refine AL.p (by exact g_len_view rfl rfl (by exact List.length_map _)) rfl ?_
    refine AL.p (by exact g_cmp rfl rfl rfl) rfl ?_
    refine AL.nil ?_
    refine th_n ?_
    refine AC.condD rfl (fun h0 => ?_) (fun h0 => ?_)
    · refine AC.skip ?_
      refine th_n ?_
      refine AC.seq ?_
      refine AC.block ?_
      have hk1 : k < l.length := by omega
      have hget := labsL_get hk1
      have hget2 := labsL_get hk1
      have hfl := fill_len (labsL l) [dI 0, dT false] (k := k) (by omega)
      have hst := fill_set (R := labsL l) (z := [dI 0, dT false]) (k := k) (by omega) hget2
      refine AC.region ?_
      refine AL.p (by exact mv2 rfl) rfl ?_
      refine AL.p (by exact mv1 rfl) rfl ?_
      refine AL.p (by exact mv1 rfl) rfl ?_
      refine AL.p (by exact mv1 rfl) rfl ?_
      refine AL.p (by exact g_ia_view rfl rfl rfl rfl rfl (by rfl) (by assumption)) rfl ?_
      refine AL.p (by exact g_load_refN rfl rfl rfl rfl) rfl ?_
      refine AL.q (by exact h_pure en_toLab rfl rfl (by repeat (first | exact rfl | exact DLead.same | refine ⟨_, _, rfl, ?_, ?_⟩ | refine ⟨_, rfl, ?_⟩)) (toLab_spec _) rfl) rfl ?_
      refine AL.p (by exact g_ia_own rfl rfl rfl rfl rfl (by rfl) (by omega) (by rfl)) rfl ?_
      refine AL.q (by exact h_store_row (i := k) (ds := labD l[k]) rfl rfl rfl rfl rfl rfl rfl (by omega)) rfl ?_
      refine AL.nil ?_
      refine ib_n ?_
      refine th_n ?_
      refine AC.region ?_
      refine AL.p (by exact mv1 rfl) rfl ?_
      refine AL.p (by exact g_arith rfl rfl rfl (by exact wrap_i64 (by omega))) rfl ?_
      refine AL.p (by exact as1 rfl) rfl ?_
      refine AL.nil ?_
      refine th_n ?_
      exact ⟨k + 1, by omega, by omega, Weak.ren _ [(100, _)] hC rfl (by repeat (first | exact True.intro | refine And.intro ?_ ?_ | exact DLead.same | exact rfl | refine ⟨_, rfl, ?_⟩)) (by rw [← hst]; repeat (first | exact True.intro | refine And.intro ?_ ?_ | exact rfl | refine ⟨_, _, rfl, rfl, ?_⟩)) rfl rfl rfl⟩
    · refine AC.exit ?_
      refine th_e ?_
      refine th_e ?_
      refine ib_y ?_
      refine th_n ?_
      refine AC.seq ?_
      have hkk : k = l.length := by omega
      have hfa := fill_all (labsL l) [dI 0, dT false]
      rw [hrl] at hfa
      rw [hkk, hfa]
      refine AC.weak (Weak.freeze (els' := labsL l) (i := 3) rfl rfl (by omega) (List.take_of_length_le (by omega))) ?_
      refine AC.region ?_
      refine AL.p (by exact mv1 rfl) rfl ?_
      refine AL.p (by exact as1 rfl) rfl ?_
      refine AL.nil ?_
      refine th_n ?_
      refine AC.ret ?_
      refine bq_r ?_
      exact ret1 rfl rfl
theorem en_toLabS : Enters Try.prog 44 := enters_of Try.func44 rfl rfl
set_option maxHeartbeats 1000000 in
theorem toBur_spec (x : Bur) (h1 : x.inn.length ≤ 1048576) (h2 : x.out.length ≤ 1048576) : ASpec Try.prog 33 [burLA x] [] (Pure1 (burA x)) := by
  refine ASpec.of Try.func33 rfl rfl fun C hC => ?_
  refine AC.seq ?_
  refine AC.region ?_
  refine AL.q (by exact h_boxF rfl rfl) rfl ?_
  refine AL.q (by exact h_alloc rfl) rfl ?_
  refine AL.nil ?_
  refine th_n ?_
  refine AC.seq ?_
  refine AC.region ?_
  refine AL.q (by exact h_alloc rfl) rfl ?_
  refine AL.nil ?_
  refine th_n ?_
  refine AC.seq ?_
  refine AC.region ?_
  refine AL.p (by exact g_fa_ref rfl rfl rfl rfl rfl rfl) rfl ?_
  refine AL.p (by exact g_load_ref rfl rfl rfl) rfl ?_
  refine AL.p (by exact g_fa_ptr rfl rfl rfl rfl rfl) rfl ?_
  refine AL.q (by exact h_store rfl rfl rfl rfl rfl rfl) rfl ?_
  refine AL.nil ?_
  refine th_n ?_
  refine AC.seq ?_
  refine AC.region ?_
  refine AL.p (by exact g_fa_ref rfl rfl rfl rfl rfl rfl) rfl ?_
  refine AL.p (by exact g_load_ref rfl rfl rfl) rfl ?_
  refine AL.q (by exact h_pure en_toLabS rfl rfl (by repeat (first | exact rfl | exact DLead.same | refine ⟨_, _, rfl, ?_, ?_⟩)) (toLabS_spec _ (by assumption)) rfl) rfl ?_
  refine AL.p (by exact g_fa_ptr rfl rfl rfl rfl rfl) rfl ?_
  refine AL.q (by exact h_store rfl rfl rfl rfl rfl rfl) rfl ?_
  refine AL.nil ?_
  refine th_n ?_
  refine AC.seq ?_
  refine AC.region ?_
  refine AL.p (by exact g_fa_ref rfl rfl rfl rfl rfl rfl) rfl ?_
  refine AL.p (by exact g_load_ref rfl rfl rfl) rfl ?_
  refine AL.q (by exact h_pure en_toLabS rfl rfl (by repeat (first | exact rfl | exact DLead.same | refine ⟨_, _, rfl, ?_, ?_⟩)) (toLabS_spec _ (by assumption)) rfl) rfl ?_
  refine AL.p (by exact g_fa_ptr rfl rfl rfl rfl rfl) rfl ?_
  refine AL.q (by exact h_store rfl rfl rfl rfl rfl rfl) rfl ?_
  refine AL.nil ?_
  refine th_n ?_
  refine AC.seq ?_
  refine AC.region ?_
  refine AL.p (by exact g_fa_ref rfl rfl rfl rfl rfl rfl) rfl ?_
  refine AL.p (by exact g_load_ref rfl rfl rfl) rfl ?_
  refine AL.p (by exact g_fa_ptr rfl rfl rfl rfl rfl) rfl ?_
  refine AL.q (by exact h_store rfl rfl rfl rfl rfl rfl) rfl ?_
  refine AL.nil ?_
  refine th_n ?_
  refine AC.seq ?_
  refine AC.region ?_
  refine AL.p (by exact g_load_ptrN rfl rfl rfl rfl rfl) rfl ?_
  refine AL.q (by exact h_store rfl rfl rfl rfl rfl rfl) rfl ?_
  refine AL.nil ?_
  refine th_n ?_
  refine AC.ret ?_
  refine bq_r ?_
  exact ret0 rfl (by repeat (first | exact DLead.same | exact rfl | refine ⟨_, rfl, ?_⟩ | refine ⟨_, _, rfl, ?_, ?_⟩))
theorem en_toBur : Enters Try.prog 33 := enters_of Try.func33 rfl rfl
set_option maxHeartbeats 2000000 in
theorem toBurS_spec (l : List Bur) (hl : l.length ≤ 1048576) (hb : ∀ t, t ∈ l → t.inn.length ≤ 1048576 ∧ t.out.length ≤ 1048576) : ASpec Try.prog 18 [.d (vLBurs l)] [] (Pure1 (.d (vBurs l))) := by
  have hrl : (bursL l).length = l.length := List.length_map _
  refine ASpec.of Try.func18 rfl rfl fun C hC => ?_
  refine AC.seq ?_
  refine AC.region ?_
  refine AL.p (by exact as1 rfl) rfl ?_
  refine AL.nil ?_
  refine th_n ?_
  refine AC.seq ?_
  refine AC.region ?_
  refine AL.p (by exact mv1 rfl) rfl ?_
  refine AL.p (by exact g_len_view rfl rfl (by exact List.length_map _)) rfl ?_
  refine AL.q (by exact h_make (k := l.length) rfl rfl rfl rfl rfl rfl rfl rfl (by show 64 * l.length ≤ _; omega) (by omega)) rfl ?_
  refine AL.p (by exact as2 rfl) rfl ?_
  refine AL.nil ?_
  refine th_n ?_
  refine AC.seq ?_
  refine AC.seq ?_
  refine AC.region ?_
  refine AL.p (by exact as1 rfl) rfl ?_
  refine AL.nil ?_
  refine th_n ?_
  refine AC.block ?_
  refine AC.loop (ι := Nat) (fun k => ⟨23, 108, [(0, .d (vLBurs l)), (3, .own 100 l.length), (4, aI k)], [(100, some (.arr 46 4 (fillR (bursL l) [dI 0, DV.val (.slice none 0 0), DV.val (.slice none 0 0), dI 0] k)))]⟩) (fun k => k ≤ l.length) (fun k => l.length - k) (0) ?_ (Nat.zero_le _) ?_
  · exact Weak.ren _ [(100, _)] hC rfl (by repeat (first | exact True.intro | refine And.intro ?_ ?_ | exact DLead.same | exact rfl | refine ⟨_, rfl, ?_⟩)) (by rw [fill_zero, hrl]; repeat (first | exact True.intro | refine And.intro ?_ ?_ | exact rfl | refine ⟨_, _, rfl, rfl, ?_⟩)) rfl rfl rfl
  · intro k hk
    refine AC.seq ?_
    refine AC.seq ?_
    refine AC.region ?_
    refine AL.p (by exact mv1 rfl) rfl ?_
    refine AL.p (by exact mv1 rfl) rfl ?_
    refine AL.p (by exact g_len_view rfl rfl (by exact List.length_map _)) rfl ?_
    refine AL.p (by exact g_cmp rfl rfl rfl) rfl ?_
    refine AL.nil ?_
    refine th_n ?_
    refine AC.condD rfl (fun h0 => ?_) (fun h0 => ?_)
    · refine AC.skip ?_
      refine th_n ?_
      refine AC.seq ?_
      refine AC.block ?_
      have hk1 : k < l.length := by omega
      have hget := bursLL_get hk1
      have hget2 := bursL_get hk1
      have hb1 := (hb _ (List.getElem_mem hk1)).1
      have hb2 := (hb _ (List.getElem_mem hk1)).2
      have hfl := fill_len (bursL l) [dI 0, DV.val (.slice none 0 0), DV.val (.slice none 0 0), dI 0] (k := k) (by omega)
      have hst := fill_set (R := bursL l) (z := [dI 0, DV.val (.slice none 0 0), DV.val (.slice none 0 0), dI 0]) (k := k) (by omega) hget2
      refine AC.region ?_
      refine AL.p (by exact mv2 rfl) rfl ?_
      refine AL.p (by exact mv1 rfl) rfl ?_
      refine AL.p (by exact mv1 rfl) rfl ?_
      refine AL.p (by exact mv1 rfl) rfl ?_
      refine AL.p (by exact g_ia_view rfl rfl rfl rfl rfl (by rfl) (by assumption)) rfl ?_
      refine AL.p (by exact g_load_refN rfl rfl rfl rfl) rfl ?_
      refine AL.q (by exact h_pure en_toBur rfl rfl (by repeat (first | exact rfl | exact DLead.same | refine ⟨_, _, rfl, ?_, ?_⟩ | refine ⟨_, rfl, ?_⟩)) (toBur_spec _ (by assumption) (by assumption)) rfl) rfl ?_
      refine AL.p (by exact g_ia_own rfl rfl rfl rfl rfl (by rfl) (by omega) (by rfl)) rfl ?_
      refine AL.q (by exact h_store_row (i := k) (ds := burD l[k]) rfl rfl rfl rfl rfl rfl rfl (by omega)) rfl ?_
      refine AL.nil ?_
      refine ib_n ?_
      refine th_n ?_
      refine AC.region ?_
      refine AL.p (by exact mv1 rfl) rfl ?_
      refine AL.p (by exact g_arith rfl rfl rfl (by exact wrap_i64 (by omega))) rfl ?_
      refine AL.p (by exact as1 rfl) rfl ?_
      refine AL.nil ?_
      refine th_n ?_
      exact ⟨k + 1, by omega, by omega, Weak.ren _ [(100, _)] hC rfl (by repeat (first | exact True.intro | refine And.intro ?_ ?_ | exact DLead.same | exact rfl | refine ⟨_, rfl, ?_⟩)) (by rw [← hst]; repeat (first | exact True.intro | refine And.intro ?_ ?_ | exact rfl | refine ⟨_, _, rfl, rfl, ?_⟩)) rfl rfl rfl⟩
    · refine AC.exit ?_
      refine th_e ?_
      refine th_e ?_
      refine ib_y ?_
      refine th_n ?_
      refine AC.seq ?_
      have hkk : k = l.length := by omega
      have hfa := fill_all (bursL l) [dI 0, DV.val (.slice none 0 0), DV.val (.slice none 0 0), dI 0]
      rw [hrl] at hfa
      rw [hkk, hfa]
      refine AC.weak (Weak.freeze (els' := bursL l) (i := 3) rfl rfl (by omega) (List.take_of_length_le (by omega))) ?_
      refine AC.region ?_
      refine AL.p (by exact mv1 rfl) rfl ?_
      refine AL.p (by exact as1 rfl) rfl ?_
      refine AL.nil ?_
      refine th_n ?_
      refine AC.ret ?_
      refine bq_r ?_
      exact ret1 rfl rfl
theorem en_toBurS : Enters Try.prog 18 := enters_of Try.func18 rfl rfl
structure SmM (m : Mach) : Prop where
  s : m.sigs.length ≤ 1048576
  sn : ∀ t, t ∈ m.sigs → t.name.length ≤ 1048576
  st : okI m.states
  b : m.burs.length ≤ 1048576
  bl : ∀ t, t ∈ m.burs → t.inn.length ≤ 1048576 ∧ t.out.length ≤ 1048576
  f : m.first.length ≤ 1048576
theorem sumL_mem {α : Type} {wt : α → Nat} : ∀ {l : List α} {x : α}, x ∈ l → wt x ≤ sumL wt l
  | a :: l, x, h => by
    rcases List.mem_cons.1 h with rfl | h
    · simp only [sumL]; omega
    · have := sumL_mem (wt := wt) h; simp only [sumL]; omega
theorem SmM.of {m : Mach} (hm : ArgM m) (h : szMc m ≤ 1048576) : SmM m := by
  have e : szMc m = (m.sigs.length + sumL szSg m.sigs) + (m.burs.length + sumL szBr m.burs) + m.first.length := rfl
  refine ⟨by omega, fun t ht => ?_, hm.st, by omega, fun t ht => ?_, by omega⟩
  · have := sumL_mem (wt := szSg) ht; have e2 : szSg t = t.name.length := rfl; omega
  · have := sumL_mem (wt := szBr) ht; have e2 : szBr t = t.inn.length + t.out.length := rfl; omega
set_option maxHeartbeats 1000000 in
theorem toMach_spec (x : Mach) (h : SmM x) : ASpec Try.prog 6 [machLA x] [] (Pure1 (machA x)) := by
  have h1 := toSigS_spec x.sigs h.s
  have h2 := toBurS_spec x.burs h.b h.bl
  refine ASpec.of Try.func6 rfl rfl fun C hC => ?_
  refine AC.seq ?_
  refine AC.region ?_
  refine AL.q (by exact h_boxF rfl rfl) rfl ?_
  refine AL.q (by exact h_alloc rfl) rfl ?_
  refine AL.nil ?_
  refine th_n ?_
  refine AC.seq ?_
  refine AC.region ?_
  refine AL.q (by exact h_alloc rfl) rfl ?_
  refine AL.nil ?_
  refine th_n ?_
  refine AC.seq ?_
  refine AC.region ?_
  refine AL.p (by exact g_fa_ref rfl rfl rfl rfl rfl rfl) rfl ?_
  refine AL.p (by exact g_load_ref rfl rfl rfl) rfl ?_
  refine AL.q (by exact h_pure en_toSigS rfl rfl (by repeat (first | exact rfl | exact DLead.same | refine ⟨_, _, rfl, ?_, ?_⟩)) h1 rfl) rfl ?_
  refine AL.p (by exact g_fa_ptr rfl rfl rfl rfl rfl) rfl ?_
  refine AL.q (by exact h_store rfl rfl rfl rfl rfl rfl) rfl ?_
  refine AL.nil ?_
  refine th_n ?_
  refine AC.seq ?_
  refine AC.region ?_
  refine AL.p (by exact g_fa_ref rfl rfl rfl rfl rfl rfl) rfl ?_
  refine AL.p (by exact g_load_ref rfl rfl rfl) rfl ?_
  refine AL.p (by exact g_fa_ptr rfl rfl rfl rfl rfl) rfl ?_
  refine AL.q (by exact h_store rfl rfl rfl rfl rfl rfl) rfl ?_
  refine AL.nil ?_
  refine th_n ?_
  refine AC.seq ?_
  refine AC.region ?_
  refine AL.p (by exact g_fa_ref rfl rfl rfl rfl rfl rfl) rfl ?_
  refine AL.p (by exact g_load_ref rfl rfl rfl) rfl ?_
  refine AL.q (by exact h_pure en_toBurS rfl rfl (by repeat (first | exact rfl | exact DLead.same | refine ⟨_, _, rfl, ?_, ?_⟩)) h2 rfl) rfl ?_
  refine AL.p (by exact g_fa_ptr rfl rfl rfl rfl rfl) rfl ?_
  refine AL.q (by exact h_store rfl rfl rfl rfl rfl rfl) rfl ?_
  refine AL.nil ?_
  refine th_n ?_
  refine AC.seq ?_
  refine AC.region ?_
  refine AL.p (by exact g_fa_ref rfl rfl rfl rfl rfl rfl) rfl ?_
  refine AL.p (by exact g_load_ref rfl rfl rfl) rfl ?_
  refine AL.p (by exact g_fa_ptr rfl rfl rfl rfl rfl) rfl ?_
  refine AL.q (by exact h_store rfl rfl rfl rfl rfl rfl) rfl ?_
  refine AL.nil ?_
  refine th_n ?_
  refine AC.seq ?_
  refine AC.region ?_
  refine AL.p (by exact g_load_ptrN rfl rfl rfl rfl rfl) rfl ?_
  refine AL.q (by exact h_store rfl rfl rfl rfl rfl rfl) rfl ?_
  refine AL.nil ?_
  refine th_n ?_
  refine AC.ret ?_
  refine bq_r ?_
  exact ret0 rfl (by repeat (first | exact DLead.same | exact rfl | refine ⟨_, rfl, ?_⟩ | refine ⟨_, _, rfl, ?_, ?_⟩))
theorem en_toMach : Enters Try.prog 6 := enters_of Try.func6 rfl rfl
theorem eqSig_dec (a b : Sig) : decide (a = b) = (decide (a.name = b.name) && decide (a.kind = b.kind)) := by
  cases a; cases b
  simp only [Sig.mk.injEq, Bool.decide_and]
set_option maxHeartbeats 1000000 in
theorem bstr_iff {a b : List UInt8} : bstr a = bstr b ↔ a = b := ⟨bstr_inj, fun h => by rw [h]⟩
theorem eqSig_spec (a b : Sig)  : ASpec Try.prog 35 [sigA a, sigA b] [] (Pure1 (aT (decide (a = b)))) := by
  rw [eqSig_dec]
  refine ASpec.of Try.func35 rfl rfl fun C hC => ?_
  refine AC.seq ?_
  refine AC.region ?_
  refine AL.q (by exact h_boxF rfl rfl) rfl ?_
  refine AL.q (by exact h_boxF rfl rfl) rfl ?_
  refine AL.p (by exact as1 rfl) rfl ?_
  refine AL.nil ?_
  refine th_n ?_
  refine AC.seq ?_
  refine AC.seq ?_
  refine AC.region ?_
  refine AL.p (by exact g_fa_ref rfl rfl rfl rfl rfl rfl) rfl ?_
  refine AL.p (by exact g_load_ref rfl rfl rfl) rfl ?_
  refine AL.p (by exact g_fa_ref rfl rfl rfl rfl rfl rfl) rfl ?_
  refine AL.p (by exact g_load_ref rfl rfl rfl) rfl ?_
  refine AL.p (by exact g_scmp rfl rfl rfl) rfl ?_
  refine AL.nil ?_
  refine th_n ?_
  refine AC.condND rfl (fun h0 => ?_) (fun h0 => ?_)
  · refine AC.seq ?_
    refine AC.region ?_
    refine AL.p (by exact as1 rfl) rfl ?_
    refine AL.nil ?_
    refine th_n ?_
    refine AC.ret ?_
    refine th_r ?_
    refine bq_r ?_
    exact ret1 rfl (by simp_all [bstr_iff])
  · refine AC.skip ?_
    refine th_n ?_
    refine AC.seq ?_
    refine AC.seq ?_
    refine AC.region ?_
    refine AL.p (by exact g_fa_ref rfl rfl rfl rfl rfl rfl) rfl ?_
    refine AL.p (by exact g_load_ref rfl rfl rfl) rfl ?_
    refine AL.p (by exact g_fa_ref rfl rfl rfl rfl rfl rfl) rfl ?_
    refine AL.p (by exact g_load_ref rfl rfl rfl) rfl ?_
    refine AL.p (by exact g_cmp rfl rfl rfl) rfl ?_
    refine AL.nil ?_
    refine th_n ?_
    refine AC.condND rfl (fun h1 => ?_) (fun h1 => ?_)
    · refine AC.seq ?_
      refine AC.region ?_
      refine AL.p (by exact as1 rfl) rfl ?_
      refine AL.nil ?_
      refine th_n ?_
      refine AC.ret ?_
      refine th_r ?_
      refine bq_r ?_
      exact ret1 rfl (by simp_all [bstr_iff])
    · refine AC.skip ?_
      refine th_n ?_
      refine AC.seq ?_
      refine AC.region ?_
      refine AL.p (by exact as1 rfl) rfl ?_
      refine AL.nil ?_
      refine th_n ?_
      refine AC.ret ?_
      refine bq_r ?_
      exact ret1 rfl (by simp_all [bstr_iff])
theorem en_eqSig : Enters Try.prog 35 := enters_of Try.func35 rfl rfl
set_option maxHeartbeats 1000000 in
theorem eqSigS_spec (a b : List Sig) (ha : a.length ≤ 1048576) (hb : b.length ≤ 1048576)  : ASpec Try.prog 22 [.d (vSigs a), .d (vSigs b)] [] (Pure1 (aT (decide (a = b)))) := by
  refine ASpec.of Try.func22 rfl rfl fun C hC => ?_
  refine AC.seq ?_
  refine AC.region ?_
  refine AL.p (by exact as1 rfl) rfl ?_
  refine AL.nil ?_
  refine th_n ?_
  refine AC.seq ?_
  refine AC.seq ?_
  refine AC.region ?_
  refine AL.p (by exact mv1 rfl) rfl ?_
  refine AL.p (by exact g_len_view rfl rfl (by exact List.length_map _)) rfl ?_
  refine AL.p (by exact mv1 rfl) rfl ?_
  refine AL.p (by exact g_len_view rfl rfl (by exact List.length_map _)) rfl ?_
  refine AL.p (by exact g_cmp rfl rfl rfl) rfl ?_
  refine AL.nil ?_
  refine th_n ?_
  refine AC.condND rfl (fun h0 => ?_) (fun h0 => ?_)
  · refine AC.seq ?_
    refine AC.region ?_
    refine AL.p (by exact as1 rfl) rfl ?_
    refine AL.nil ?_
    refine th_n ?_
    refine AC.ret ?_
    refine th_r ?_
    refine bq_r ?_
    have hne : a ≠ b := fun e => h0 (by rw [e])
    exact ret1 rfl (by rw [decide_eq_false hne])
  · refine AC.skip ?_
    refine th_n ?_
    refine AC.seq ?_
    refine AC.seq ?_
    refine AC.region ?_
    refine AL.p (by exact as1 rfl) rfl ?_
    refine AL.nil ?_
    refine th_n ?_
    refine AC.block ?_
    refine AC.loop (ι := Nat) (fun k => ⟨27, 0, [(0, .d (vSigs a)), (1, .d (vSigs b)), (5, aI k)], []⟩) (fun k => k ≤ a.length ∧ ∀ j (h1 : j < a.length) (h2 : j < b.length), j < k → a[j] = b[j]) (fun k => a.length - k) (0) ?_ (⟨Nat.zero_le _, fun j _ _ hj => by omega⟩) ?_
    · refine Weak.ren _ [] hC rfl ?_ ?_ rfl rfl rfl <;> repeat (first | exact True.intro | refine And.intro ?_ ?_ | exact DLead.same)
    · intro k ⟨hk, hall⟩
      refine AC.seq ?_
      refine AC.seq ?_
      refine AC.region ?_
      refine AL.p (by exact mv1 rfl) rfl ?_
      refine AL.p (by exact mv1 rfl) rfl ?_
      refine AL.p (by exact g_len_view rfl rfl (by exact List.length_map _)) rfl ?_
      refine AL.p (by exact g_cmp rfl rfl rfl) rfl ?_
      refine AL.nil ?_
      refine th_n ?_
      refine AC.condD rfl (fun h1 => ?_) (fun h1 => ?_)
      · refine AC.skip ?_
        refine th_n ?_
        refine AC.seq ?_
        refine AC.block ?_
        refine AC.seq ?_
        have hk1 : k < a.length := by omega
        have hk2 : k < b.length := by omega
        have hgeta := sigsL_get hk1
        have hgetb := sigsL_get hk2
        refine AC.drawn' mixed_ok [[], [], [0,1], [0,1,2], [], [], [4,5], [4,5,6], [0,1,2,3,4,5,6,7], [0,1,2,3,4,5,6,7,8]] (by decide) ?_
        refine DF.op 0 [] 10 rfl rfl rfl (.free rfl (NOp.of (by exact mv1 rfl))) rfl ?_
        refine DF.op 1 [] 10 rfl rfl rfl (.free rfl (NOp.of (by exact mv1 rfl))) rfl ?_
        refine DF.op 2 [0,1] 10 rfl rfl rfl (.free rfl (NOp.of (by exact g_ia_view rfl rfl rfl rfl rfl (by rfl) (by assumption)))) rfl ?_
        refine DF.op 3 [0,1,2] 10 rfl rfl rfl (.free rfl (NOp.of (by exact g_load_refN rfl rfl rfl rfl))) rfl ?_
        refine DF.op 4 [] 10 rfl rfl rfl (.free rfl (NOp.of (by exact mv1 rfl))) rfl ?_
        refine DF.op 5 [] 10 rfl rfl rfl (.free rfl (NOp.of (by exact mv1 rfl))) rfl ?_
        refine DF.op 6 [4,5] 10 rfl rfl rfl (.free rfl (NOp.of (by exact g_ia_view rfl rfl rfl rfl rfl (by rfl) (by assumption)))) rfl ?_
        refine DF.op 7 [4,5,6] 10 rfl rfl rfl (.free rfl (NOp.of (by exact g_load_refN rfl rfl rfl rfl))) rfl ?_
        refine DF.op 8 [0,1,2,3,4,5,6,7] 10 rfl rfl rfl (.free rfl (by exact h_pure en_eqSig rfl rfl (by repeat (first | exact rfl | exact DLead.same | refine ⟨_, _, rfl, ?_, ?_⟩ | refine ⟨_, rfl, ?_⟩)) (eqSig_spec _ _) rfl)) rfl ?_
        refine DF.op 9 [0,1,2,3,4,5,6,7,8] 10 rfl rfl rfl (.free rfl (NOp.of (by exact g_not rfl))) rfl ?_
        refine DF.fin (ps := [(0, 1), (0, 4), (0, 5), (0, 6), (0, 7), (1, 0), (1, 4), (1, 5), (1, 6), (1, 7), (2, 4), (2, 5), (2, 6), (2, 7), (3, 4), (3, 5), (3, 6), (3, 7), (4, 0), (4, 1), (4, 2), (4, 3), (4, 5), (5, 0), (5, 1), (5, 2), (5, 3), (5, 4), (6, 0), (6, 1), (6, 2), (6, 3), (7, 0), (7, 1), (7, 2), (7, 3)]) 10 rfl (by decide +kernel) (by decide +kernel) (by rfl) ?_
        refine th_n ?_
        refine AC.condND rfl (fun h2 => ?_) (fun h2 => ?_)
        · refine AC.seq ?_
          refine AC.region ?_
          refine AL.p (by exact as1 rfl) rfl ?_
          refine AL.nil ?_
          refine th_n ?_
          refine AC.ret ?_
          refine ib_r ?_
          refine th_r ?_
          refine th_r ?_
          refine ib_r ?_
          refine th_r ?_
          refine bq_r ?_
          have hne : a ≠ b := fun e => by subst e; simp at h2
          exact ret1 rfl (by rw [decide_eq_false hne])
        · refine AC.skip ?_
          refine ib_n ?_
          refine th_n ?_
          refine AC.region ?_
          refine AL.p (by exact mv1 rfl) rfl ?_
          refine AL.p (by exact g_arith rfl rfl rfl (by exact wrap_i64 (by omega))) rfl ?_
          refine AL.p (by exact as1 rfl) rfl ?_
          refine AL.nil ?_
          refine th_n ?_
          have hkk : a[k] = b[k] := by simpa using h2
          exact ⟨k + 1, ⟨by omega, fun j h1 h2 hj => by rcases Nat.lt_succ_iff_lt_or_eq.1 hj with h | rfl; exact hall j h1 h2 h; exact hkk⟩, by omega, Weak.ren _ [] hC rfl (by repeat (first | exact True.intro | refine And.intro ?_ ?_ | exact DLead.same)) (by repeat (exact True.intro)) rfl rfl rfl⟩
      · refine AC.exit ?_
        refine th_e ?_
        refine th_e ?_
        refine ib_y ?_
        refine th_n ?_
        refine AC.seq ?_
        refine AC.region ?_
        refine AL.p (by exact as1 rfl) rfl ?_
        refine AL.nil ?_
        refine th_n ?_
        refine AC.ret ?_
        refine bq_r ?_
        have he : a = b := List.ext_getElem (by omega) (fun j h1 h2 => hall j h1 h2 (by omega))
        exact ret1 rfl (by rw [decide_eq_true he])
theorem en_eqSigS : Enters Try.prog 22 := enters_of Try.func22 rfl rfl
theorem eqLab_dec (a b : Lab) : decide (a = b) = (decide (a.sig = b.sig) && decide (a.up = b.up)) := by
  cases a; cases b
  simp only [Lab.mk.injEq, Bool.decide_and]
set_option maxHeartbeats 1000000 in
theorem eqLab_spec (a b : Lab)  : ASpec Try.prog 67 [labA a, labA b] [] (Pure1 (aT (decide (a = b)))) := by
  rw [eqLab_dec]
  refine ASpec.of Try.func67 rfl rfl fun C hC => ?_
  refine AC.seq ?_
  refine AC.region ?_
  refine AL.q (by exact h_boxF rfl rfl) rfl ?_
  refine AL.q (by exact h_boxF rfl rfl) rfl ?_
  refine AL.p (by exact as1 rfl) rfl ?_
  refine AL.nil ?_
  refine th_n ?_
  refine AC.seq ?_
  refine AC.seq ?_
  refine AC.region ?_
  refine AL.p (by exact g_fa_ref rfl rfl rfl rfl rfl rfl) rfl ?_
  refine AL.p (by exact g_load_ref rfl rfl rfl) rfl ?_
  refine AL.p (by exact g_fa_ref rfl rfl rfl rfl rfl rfl) rfl ?_
  refine AL.p (by exact g_load_ref rfl rfl rfl) rfl ?_
  refine AL.p (by exact g_cmp rfl rfl rfl) rfl ?_
  refine AL.nil ?_
  refine th_n ?_
  refine AC.condND rfl (fun h0 => ?_) (fun h0 => ?_)
  · refine AC.seq ?_
    refine AC.region ?_
    refine AL.p (by exact as1 rfl) rfl ?_
    refine AL.nil ?_
    refine th_n ?_
    refine AC.ret ?_
    refine th_r ?_
    refine bq_r ?_
    exact ret1 rfl (by simp_all [bstr_iff])
  · refine AC.skip ?_
    refine th_n ?_
    refine AC.seq ?_
    refine AC.seq ?_
    refine AC.region ?_
    refine AL.p (by exact g_fa_ref rfl rfl rfl rfl rfl rfl) rfl ?_
    refine AL.p (by exact g_load_ref rfl rfl rfl) rfl ?_
    refine AL.p (by exact g_fa_ref rfl rfl rfl rfl rfl rfl) rfl ?_
    refine AL.p (by exact g_load_ref rfl rfl rfl) rfl ?_
    refine AL.p (by exact g_neB rfl rfl rfl) rfl ?_
    refine AL.nil ?_
    refine th_n ?_
    refine AC.condND rfl (fun h1 => ?_) (fun h1 => ?_)
    · refine AC.seq ?_
      refine AC.region ?_
      refine AL.p (by exact as1 rfl) rfl ?_
      refine AL.nil ?_
      refine th_n ?_
      refine AC.ret ?_
      refine th_r ?_
      refine bq_r ?_
      exact ret1 rfl (by simp_all [bstr_iff])
    · refine AC.skip ?_
      refine th_n ?_
      refine AC.seq ?_
      refine AC.region ?_
      refine AL.p (by exact as1 rfl) rfl ?_
      refine AL.nil ?_
      refine th_n ?_
      refine AC.ret ?_
      refine bq_r ?_
      exact ret1 rfl (by simp_all [bstr_iff])
theorem en_eqLab : Enters Try.prog 67 := enters_of Try.func67 rfl rfl
set_option maxHeartbeats 1000000 in
theorem eqLabS_spec (a b : List Lab) (ha : a.length ≤ 1048576) (hb : b.length ≤ 1048576)  : ASpec Try.prog 52 [.d (vLabs a), .d (vLabs b)] [] (Pure1 (aT (decide (a = b)))) := by
  refine ASpec.of Try.func52 rfl rfl fun C hC => ?_
  refine AC.seq ?_
  refine AC.region ?_
  refine AL.p (by exact as1 rfl) rfl ?_
  refine AL.nil ?_
  refine th_n ?_
  refine AC.seq ?_
  refine AC.seq ?_
  refine AC.region ?_
  refine AL.p (by exact mv1 rfl) rfl ?_
  refine AL.p (by exact g_len_view rfl rfl (by exact List.length_map _)) rfl ?_
  refine AL.p (by exact mv1 rfl) rfl ?_
  refine AL.p (by exact g_len_view rfl rfl (by exact List.length_map _)) rfl ?_
  refine AL.p (by exact g_cmp rfl rfl rfl) rfl ?_
  refine AL.nil ?_
  refine th_n ?_
  refine AC.condND rfl (fun h0 => ?_) (fun h0 => ?_)
  · refine AC.seq ?_
    refine AC.region ?_
    refine AL.p (by exact as1 rfl) rfl ?_
    refine AL.nil ?_
    refine th_n ?_
    refine AC.ret ?_
    refine th_r ?_
    refine bq_r ?_
    have hne : a ≠ b := fun e => h0 (by rw [e])
    exact ret1 rfl (by rw [decide_eq_false hne])
  · refine AC.skip ?_
    refine th_n ?_
    refine AC.seq ?_
    refine AC.seq ?_
    refine AC.region ?_
    refine AL.p (by exact as1 rfl) rfl ?_
    refine AL.nil ?_
    refine th_n ?_
    refine AC.block ?_
    refine AC.loop (ι := Nat) (fun k => ⟨27, 0, [(0, .d (vLabs a)), (1, .d (vLabs b)), (5, aI k)], []⟩) (fun k => k ≤ a.length ∧ ∀ j (h1 : j < a.length) (h2 : j < b.length), j < k → a[j] = b[j]) (fun k => a.length - k) (0) ?_ (⟨Nat.zero_le _, fun j _ _ hj => by omega⟩) ?_
    · refine Weak.ren _ [] hC rfl ?_ ?_ rfl rfl rfl <;> repeat (first | exact True.intro | refine And.intro ?_ ?_ | exact DLead.same)
    · intro k ⟨hk, hall⟩
      refine AC.seq ?_
      refine AC.seq ?_
      refine AC.region ?_
      refine AL.p (by exact mv1 rfl) rfl ?_
      refine AL.p (by exact mv1 rfl) rfl ?_
      refine AL.p (by exact g_len_view rfl rfl (by exact List.length_map _)) rfl ?_
      refine AL.p (by exact g_cmp rfl rfl rfl) rfl ?_
      refine AL.nil ?_
      refine th_n ?_
      refine AC.condD rfl (fun h1 => ?_) (fun h1 => ?_)
      · refine AC.skip ?_
        refine th_n ?_
        refine AC.seq ?_
        refine AC.block ?_
        refine AC.seq ?_
        have hk1 : k < a.length := by omega
        have hk2 : k < b.length := by omega
        have hgeta := labsL_get hk1
        have hgetb := labsL_get hk2
        refine AC.drawn' mixed_ok [[], [], [0,1], [0,1,2], [], [], [4,5], [4,5,6], [0,1,2,3,4,5,6,7], [0,1,2,3,4,5,6,7,8]] (by decide) ?_
        refine DF.op 0 [] 10 rfl rfl rfl (.free rfl (NOp.of (by exact mv1 rfl))) rfl ?_
        refine DF.op 1 [] 10 rfl rfl rfl (.free rfl (NOp.of (by exact mv1 rfl))) rfl ?_
        refine DF.op 2 [0,1] 10 rfl rfl rfl (.free rfl (NOp.of (by exact g_ia_view rfl rfl rfl rfl rfl (by rfl) (by assumption)))) rfl ?_
        refine DF.op 3 [0,1,2] 10 rfl rfl rfl (.free rfl (NOp.of (by exact g_load_refN rfl rfl rfl rfl))) rfl ?_
        refine DF.op 4 [] 10 rfl rfl rfl (.free rfl (NOp.of (by exact mv1 rfl))) rfl ?_
        refine DF.op 5 [] 10 rfl rfl rfl (.free rfl (NOp.of (by exact mv1 rfl))) rfl ?_
        refine DF.op 6 [4,5] 10 rfl rfl rfl (.free rfl (NOp.of (by exact g_ia_view rfl rfl rfl rfl rfl (by rfl) (by assumption)))) rfl ?_
        refine DF.op 7 [4,5,6] 10 rfl rfl rfl (.free rfl (NOp.of (by exact g_load_refN rfl rfl rfl rfl))) rfl ?_
        refine DF.op 8 [0,1,2,3,4,5,6,7] 10 rfl rfl rfl (.free rfl (by exact h_pure en_eqLab rfl rfl (by repeat (first | exact rfl | exact DLead.same | refine ⟨_, _, rfl, ?_, ?_⟩ | refine ⟨_, rfl, ?_⟩)) (eqLab_spec _ _) rfl)) rfl ?_
        refine DF.op 9 [0,1,2,3,4,5,6,7,8] 10 rfl rfl rfl (.free rfl (NOp.of (by exact g_not rfl))) rfl ?_
        refine DF.fin (ps := [(0, 1), (0, 4), (0, 5), (0, 6), (0, 7), (1, 0), (1, 4), (1, 5), (1, 6), (1, 7), (2, 4), (2, 5), (2, 6), (2, 7), (3, 4), (3, 5), (3, 6), (3, 7), (4, 0), (4, 1), (4, 2), (4, 3), (4, 5), (5, 0), (5, 1), (5, 2), (5, 3), (5, 4), (6, 0), (6, 1), (6, 2), (6, 3), (7, 0), (7, 1), (7, 2), (7, 3)]) 10 rfl (by decide +kernel) (by decide +kernel) (by rfl) ?_
        refine th_n ?_
        refine AC.condND rfl (fun h2 => ?_) (fun h2 => ?_)
        · refine AC.seq ?_
          refine AC.region ?_
          refine AL.p (by exact as1 rfl) rfl ?_
          refine AL.nil ?_
          refine th_n ?_
          refine AC.ret ?_
          refine ib_r ?_
          refine th_r ?_
          refine th_r ?_
          refine ib_r ?_
          refine th_r ?_
          refine bq_r ?_
          have hne : a ≠ b := fun e => by subst e; simp at h2
          exact ret1 rfl (by rw [decide_eq_false hne])
        · refine AC.skip ?_
          refine ib_n ?_
          refine th_n ?_
          refine AC.region ?_
          refine AL.p (by exact mv1 rfl) rfl ?_
          refine AL.p (by exact g_arith rfl rfl rfl (by exact wrap_i64 (by omega))) rfl ?_
          refine AL.p (by exact as1 rfl) rfl ?_
          refine AL.nil ?_
          refine th_n ?_
          have hkk : a[k] = b[k] := by simpa using h2
          exact ⟨k + 1, ⟨by omega, fun j h1 h2 hj => by rcases Nat.lt_succ_iff_lt_or_eq.1 hj with h | rfl; exact hall j h1 h2 h; exact hkk⟩, by omega, Weak.ren _ [] hC rfl (by repeat (first | exact True.intro | refine And.intro ?_ ?_ | exact DLead.same)) (by repeat (exact True.intro)) rfl rfl rfl⟩
      · refine AC.exit ?_
        refine th_e ?_
        refine th_e ?_
        refine ib_y ?_
        refine th_n ?_
        refine AC.seq ?_
        refine AC.region ?_
        refine AL.p (by exact as1 rfl) rfl ?_
        refine AL.nil ?_
        refine th_n ?_
        refine AC.ret ?_
        refine bq_r ?_
        have he : a = b := List.ext_getElem (by omega) (fun j h1 h2 => hall j h1 h2 (by omega))
        exact ret1 rfl (by rw [decide_eq_true he])
theorem en_eqLabS : Enters Try.prog 52 := enters_of Try.func52 rfl rfl
theorem eqBur_dec (a b : Bur) : decide (a = b) = (decide (a.from_ = b.from_) && (decide (a.inn = b.inn) && (decide (a.out = b.out) && decide (a.to_ = b.to_)))) := by
  cases a; cases b
  simp only [Bur.mk.injEq, Bool.decide_and]
set_option maxHeartbeats 1000000 in
theorem eqBur_spec (a b : Bur) (h1 : a.inn.length ≤ 1048576) (h2 : b.inn.length ≤ 1048576) (h3 : a.out.length ≤ 1048576) (h4 : b.out.length ≤ 1048576) : ASpec Try.prog 36 [burA a, burA b] [] (Pure1 (aT (decide (a = b)))) := by
  rw [eqBur_dec]
  refine ASpec.of Try.func36 rfl rfl fun C hC => ?_
  refine AC.seq ?_
  refine AC.region ?_
  refine AL.q (by exact h_boxF rfl rfl) rfl ?_
  refine AL.q (by exact h_boxF rfl rfl) rfl ?_
  refine AL.p (by exact as1 rfl) rfl ?_
  refine AL.nil ?_
  refine th_n ?_
  refine AC.seq ?_
  refine AC.seq ?_
  refine AC.region ?_
  refine AL.p (by exact g_fa_ref rfl rfl rfl rfl rfl rfl) rfl ?_
  refine AL.p (by exact g_load_ref rfl rfl rfl) rfl ?_
  refine AL.p (by exact g_fa_ref rfl rfl rfl rfl rfl rfl) rfl ?_
  refine AL.p (by exact g_load_ref rfl rfl rfl) rfl ?_
  refine AL.p (by exact g_cmp rfl rfl rfl) rfl ?_
  refine AL.nil ?_
  refine th_n ?_
  refine AC.condND rfl (fun h0 => ?_) (fun h0 => ?_)
  · refine AC.seq ?_
    refine AC.region ?_
    refine AL.p (by exact as1 rfl) rfl ?_
    refine AL.nil ?_
    refine th_n ?_
    refine AC.ret ?_
    refine th_r ?_
    refine bq_r ?_
    exact ret1 rfl (by simp_all [bstr_iff])
  · refine AC.skip ?_
    refine th_n ?_
    refine AC.seq ?_
    refine AC.seq ?_
    refine AC.region ?_
    refine AL.p (by exact g_fa_ref rfl rfl rfl rfl rfl rfl) rfl ?_
    refine AL.p (by exact g_load_ref rfl rfl rfl) rfl ?_
    refine AL.p (by exact g_fa_ref rfl rfl rfl rfl rfl rfl) rfl ?_
    refine AL.p (by exact g_load_ref rfl rfl rfl) rfl ?_
    refine AL.q (by exact h_pure en_eqLabS rfl rfl (by repeat (first | exact rfl | exact DLead.same | refine ⟨_, _, rfl, ?_, ?_⟩)) (eqLabS_spec _ _ (by assumption) (by assumption)) rfl) rfl ?_
    refine AL.p (by exact g_not rfl) rfl ?_
    refine AL.nil ?_
    refine th_n ?_
    refine AC.condND rfl (fun h1 => ?_) (fun h1 => ?_)
    · refine AC.seq ?_
      refine AC.region ?_
      refine AL.p (by exact as1 rfl) rfl ?_
      refine AL.nil ?_
      refine th_n ?_
      refine AC.ret ?_
      refine th_r ?_
      refine bq_r ?_
      exact ret1 rfl (by simp_all [bstr_iff])
    · refine AC.skip ?_
      refine th_n ?_
      refine AC.seq ?_
      refine AC.seq ?_
      refine AC.region ?_
      refine AL.p (by exact g_fa_ref rfl rfl rfl rfl rfl rfl) rfl ?_
      refine AL.p (by exact g_load_ref rfl rfl rfl) rfl ?_
      refine AL.p (by exact g_fa_ref rfl rfl rfl rfl rfl rfl) rfl ?_
      refine AL.p (by exact g_load_ref rfl rfl rfl) rfl ?_
      refine AL.q (by exact h_pure en_eqLabS rfl rfl (by repeat (first | exact rfl | exact DLead.same | refine ⟨_, _, rfl, ?_, ?_⟩)) (eqLabS_spec _ _ (by assumption) (by assumption)) rfl) rfl ?_
      refine AL.p (by exact g_not rfl) rfl ?_
      refine AL.nil ?_
      refine th_n ?_
      refine AC.condND rfl (fun h2 => ?_) (fun h2 => ?_)
      · refine AC.seq ?_
        refine AC.region ?_
        refine AL.p (by exact as1 rfl) rfl ?_
        refine AL.nil ?_
        refine th_n ?_
        refine AC.ret ?_
        refine th_r ?_
        refine bq_r ?_
        exact ret1 rfl (by simp_all [bstr_iff])
      · refine AC.skip ?_
        refine th_n ?_
        refine AC.seq ?_
        refine AC.seq ?_
        refine AC.region ?_
        refine AL.p (by exact g_fa_ref rfl rfl rfl rfl rfl rfl) rfl ?_
        refine AL.p (by exact g_load_ref rfl rfl rfl) rfl ?_
        refine AL.p (by exact g_fa_ref rfl rfl rfl rfl rfl rfl) rfl ?_
        refine AL.p (by exact g_load_ref rfl rfl rfl) rfl ?_
        refine AL.p (by exact g_cmp rfl rfl rfl) rfl ?_
        refine AL.nil ?_
        refine th_n ?_
        refine AC.condND rfl (fun h3 => ?_) (fun h3 => ?_)
        · refine AC.seq ?_
          refine AC.region ?_
          refine AL.p (by exact as1 rfl) rfl ?_
          refine AL.nil ?_
          refine th_n ?_
          refine AC.ret ?_
          refine th_r ?_
          refine bq_r ?_
          exact ret1 rfl (by simp_all [bstr_iff])
        · refine AC.skip ?_
          refine th_n ?_
          refine AC.seq ?_
          refine AC.region ?_
          refine AL.p (by exact as1 rfl) rfl ?_
          refine AL.nil ?_
          refine th_n ?_
          refine AC.ret ?_
          refine bq_r ?_
          exact ret1 rfl (by simp_all [bstr_iff])
theorem en_eqBur : Enters Try.prog 36 := enters_of Try.func36 rfl rfl
set_option maxHeartbeats 1000000 in
theorem eqBurS_spec (a b : List Bur) (ha : a.length ≤ 1048576) (hb : b.length ≤ 1048576) (hba : ∀ t, t ∈ a → t.inn.length ≤ 1048576 ∧ t.out.length ≤ 1048576) (hbb : ∀ t, t ∈ b → t.inn.length ≤ 1048576 ∧ t.out.length ≤ 1048576) : ASpec Try.prog 23 [.d (vBurs a), .d (vBurs b)] [] (Pure1 (aT (decide (a = b)))) := by
  refine ASpec.of Try.func23 rfl rfl fun C hC => ?_
  refine AC.seq ?_
  refine AC.region ?_
  refine AL.p (by exact as1 rfl) rfl ?_
  refine AL.nil ?_
  refine th_n ?_
  refine AC.seq ?_
  refine AC.seq ?_
  refine AC.region ?_
  refine AL.p (by exact mv1 rfl) rfl ?_
  refine AL.p (by exact g_len_view rfl rfl (by exact List.length_map _)) rfl ?_
  refine AL.p (by exact mv1 rfl) rfl ?_
  refine AL.p (by exact g_len_view rfl rfl (by exact List.length_map _)) rfl ?_
  refine AL.p (by exact g_cmp rfl rfl rfl) rfl ?_
  refine AL.nil ?_
  refine th_n ?_
  refine AC.condND rfl (fun h0 => ?_) (fun h0 => ?_)
  · refine AC.seq ?_
    refine AC.region ?_
    refine AL.p (by exact as1 rfl) rfl ?_
    refine AL.nil ?_
    refine th_n ?_
    refine AC.ret ?_
    refine th_r ?_
    refine bq_r ?_
    have hne : a ≠ b := fun e => h0 (by rw [e])
    exact ret1 rfl (by rw [decide_eq_false hne])
  · refine AC.skip ?_
    refine th_n ?_
    refine AC.seq ?_
    refine AC.seq ?_
    refine AC.region ?_
    refine AL.p (by exact as1 rfl) rfl ?_
    refine AL.nil ?_
    refine th_n ?_
    refine AC.block ?_
    refine AC.loop (ι := Nat) (fun k => ⟨27, 0, [(0, .d (vBurs a)), (1, .d (vBurs b)), (5, aI k)], []⟩) (fun k => k ≤ a.length ∧ ∀ j (h1 : j < a.length) (h2 : j < b.length), j < k → a[j] = b[j]) (fun k => a.length - k) (0) ?_ (⟨Nat.zero_le _, fun j _ _ hj => by omega⟩) ?_
    · refine Weak.ren _ [] hC rfl ?_ ?_ rfl rfl rfl <;> repeat (first | exact True.intro | refine And.intro ?_ ?_ | exact DLead.same)
    · intro k ⟨hk, hall⟩
      refine AC.seq ?_
      refine AC.seq ?_
      refine AC.region ?_
      refine AL.p (by exact mv1 rfl) rfl ?_
      refine AL.p (by exact mv1 rfl) rfl ?_
      refine AL.p (by exact g_len_view rfl rfl (by exact List.length_map _)) rfl ?_
      refine AL.p (by exact g_cmp rfl rfl rfl) rfl ?_
      refine AL.nil ?_
      refine th_n ?_
      refine AC.condD rfl (fun h1 => ?_) (fun h1 => ?_)
      · refine AC.skip ?_
        refine th_n ?_
        refine AC.seq ?_
        refine AC.block ?_
        refine AC.seq ?_
        have hk1 : k < a.length := by omega
        have hk2 : k < b.length := by omega
        have hgeta := bursL_get hk1
        have hgetb := bursL_get hk2
        have q1 := (hba _ (List.getElem_mem hk1)).1
        have q2 := (hba _ (List.getElem_mem hk1)).2
        have q3 := (hbb _ (List.getElem_mem hk2)).1
        have q4 := (hbb _ (List.getElem_mem hk2)).2
        refine AC.drawn' mixed_ok [[], [], [0,1], [0,1,2], [], [], [4,5], [4,5,6], [0,1,2,3,4,5,6,7], [0,1,2,3,4,5,6,7,8]] (by decide) ?_
        refine DF.op 0 [] 10 rfl rfl rfl (.free rfl (NOp.of (by exact mv1 rfl))) rfl ?_
        refine DF.op 1 [] 10 rfl rfl rfl (.free rfl (NOp.of (by exact mv1 rfl))) rfl ?_
        refine DF.op 2 [0,1] 10 rfl rfl rfl (.free rfl (NOp.of (by exact g_ia_view rfl rfl rfl rfl rfl (by rfl) (by assumption)))) rfl ?_
        refine DF.op 3 [0,1,2] 10 rfl rfl rfl (.free rfl (NOp.of (by exact g_load_refN rfl rfl rfl rfl))) rfl ?_
        refine DF.op 4 [] 10 rfl rfl rfl (.free rfl (NOp.of (by exact mv1 rfl))) rfl ?_
        refine DF.op 5 [] 10 rfl rfl rfl (.free rfl (NOp.of (by exact mv1 rfl))) rfl ?_
        refine DF.op 6 [4,5] 10 rfl rfl rfl (.free rfl (NOp.of (by exact g_ia_view rfl rfl rfl rfl rfl (by rfl) (by assumption)))) rfl ?_
        refine DF.op 7 [4,5,6] 10 rfl rfl rfl (.free rfl (NOp.of (by exact g_load_refN rfl rfl rfl rfl))) rfl ?_
        refine DF.op 8 [0,1,2,3,4,5,6,7] 10 rfl rfl rfl (.free rfl (by exact h_pure en_eqBur rfl rfl (by repeat (first | exact rfl | exact DLead.same | refine ⟨_, _, rfl, ?_, ?_⟩ | refine ⟨_, rfl, ?_⟩)) (eqBur_spec _ _ (by assumption) (by assumption) (by assumption) (by assumption)) rfl)) rfl ?_
        refine DF.op 9 [0,1,2,3,4,5,6,7,8] 10 rfl rfl rfl (.free rfl (NOp.of (by exact g_not rfl))) rfl ?_
        refine DF.fin (ps := [(0, 1), (0, 4), (0, 5), (0, 6), (0, 7), (1, 0), (1, 4), (1, 5), (1, 6), (1, 7), (2, 4), (2, 5), (2, 6), (2, 7), (3, 4), (3, 5), (3, 6), (3, 7), (4, 0), (4, 1), (4, 2), (4, 3), (4, 5), (5, 0), (5, 1), (5, 2), (5, 3), (5, 4), (6, 0), (6, 1), (6, 2), (6, 3), (7, 0), (7, 1), (7, 2), (7, 3)]) 10 rfl (by decide +kernel) (by decide +kernel) (by rfl) ?_
        refine th_n ?_
        refine AC.condND rfl (fun h2 => ?_) (fun h2 => ?_)
        · refine AC.seq ?_
          refine AC.region ?_
          refine AL.p (by exact as1 rfl) rfl ?_
          refine AL.nil ?_
          refine th_n ?_
          refine AC.ret ?_
          refine ib_r ?_
          refine th_r ?_
          refine th_r ?_
          refine ib_r ?_
          refine th_r ?_
          refine bq_r ?_
          have hne : a ≠ b := fun e => by subst e; simp at h2
          exact ret1 rfl (by rw [decide_eq_false hne])
        · refine AC.skip ?_
          refine ib_n ?_
          refine th_n ?_
          refine AC.region ?_
          refine AL.p (by exact mv1 rfl) rfl ?_
          refine AL.p (by exact g_arith rfl rfl rfl (by exact wrap_i64 (by omega))) rfl ?_
          refine AL.p (by exact as1 rfl) rfl ?_
          refine AL.nil ?_
          refine th_n ?_
          have hkk : a[k] = b[k] := by simpa using h2
          exact ⟨k + 1, ⟨by omega, fun j h1 h2 hj => by rcases Nat.lt_succ_iff_lt_or_eq.1 hj with h | rfl; exact hall j h1 h2 h; exact hkk⟩, by omega, Weak.ren _ [] hC rfl (by repeat (first | exact True.intro | refine And.intro ?_ ?_ | exact DLead.same)) (by repeat (exact True.intro)) rfl rfl rfl⟩
      · refine AC.exit ?_
        refine th_e ?_
        refine th_e ?_
        refine ib_y ?_
        refine th_n ?_
        refine AC.seq ?_
        refine AC.region ?_
        refine AL.p (by exact as1 rfl) rfl ?_
        refine AL.nil ?_
        refine th_n ?_
        refine AC.ret ?_
        refine bq_r ?_
        have he : a = b := List.ext_getElem (by omega) (fun j h1 h2 => hall j h1 h2 (by omega))
        exact ret1 rfl (by rw [decide_eq_true he])
theorem en_eqBurS : Enters Try.prog 23 := enters_of Try.func23 rfl rfl
theorem eqMach_dec (a b : Mach) : decide (a = b) = (decide (a.sigs = b.sigs) && (decide (a.states = b.states) && (decide (a.burs = b.burs) && decide (a.first = b.first)))) := by
  cases a; cases b
  simp only [Mach.mk.injEq, Bool.decide_and]
set_option maxHeartbeats 1000000 in
theorem eqMach_spec (a b : Mach) (ha : SmM a) (hb : SmM b) : ASpec Try.prog 9 [machA a, machA b] [] (Pure1 (aT (decide (a = b)))) := by
  rw [eqMach_dec]
  have k1 := eqSigS_spec a.sigs b.sigs ha.s hb.s
  have k2 := eqBurS_spec a.burs b.burs ha.b hb.b ha.bl hb.bl
  refine ASpec.of Try.func9 rfl rfl fun C hC => ?_
  refine AC.seq ?_
  refine AC.region ?_
  refine AL.q (by exact h_boxF rfl rfl) rfl ?_
  refine AL.q (by exact h_boxF rfl rfl) rfl ?_
  refine AL.p (by exact as1 rfl) rfl ?_
  refine AL.nil ?_
  refine th_n ?_
  refine AC.seq ?_
  refine AC.seq ?_
  refine AC.region ?_
  refine AL.p (by exact g_fa_ref rfl rfl rfl rfl rfl rfl) rfl ?_
  refine AL.p (by exact g_load_ref rfl rfl rfl) rfl ?_
  refine AL.p (by exact g_fa_ref rfl rfl rfl rfl rfl rfl) rfl ?_
  refine AL.p (by exact g_load_ref rfl rfl rfl) rfl ?_
  refine AL.q (by exact h_pure en_eqSigS rfl rfl (by repeat (first | exact rfl | exact DLead.same | refine ⟨_, _, rfl, ?_, ?_⟩)) k1 rfl) rfl ?_
  refine AL.p (by exact g_not rfl) rfl ?_
  refine AL.nil ?_
  refine th_n ?_
  refine AC.condND rfl (fun h0 => ?_) (fun h0 => ?_)
  · refine AC.seq ?_
    refine AC.region ?_
    refine AL.p (by exact as1 rfl) rfl ?_
    refine AL.nil ?_
    refine th_n ?_
    refine AC.ret ?_
    refine th_r ?_
    refine bq_r ?_
    exact ret1 rfl (by simp_all [bstr_iff])
  · refine AC.skip ?_
    refine th_n ?_
    refine AC.seq ?_
    refine AC.seq ?_
    refine AC.region ?_
    refine AL.p (by exact g_fa_ref rfl rfl rfl rfl rfl rfl) rfl ?_
    refine AL.p (by exact g_load_ref rfl rfl rfl) rfl ?_
    refine AL.p (by exact g_fa_ref rfl rfl rfl rfl rfl rfl) rfl ?_
    refine AL.p (by exact g_load_ref rfl rfl rfl) rfl ?_
    refine AL.p (by exact g_cmp rfl rfl rfl) rfl ?_
    refine AL.nil ?_
    refine th_n ?_
    refine AC.condND rfl (fun h1 => ?_) (fun h1 => ?_)
    · refine AC.seq ?_
      refine AC.region ?_
      refine AL.p (by exact as1 rfl) rfl ?_
      refine AL.nil ?_
      refine th_n ?_
      refine AC.ret ?_
      refine th_r ?_
      refine bq_r ?_
      exact ret1 rfl (by simp_all [bstr_iff])
    · refine AC.skip ?_
      refine th_n ?_
      refine AC.seq ?_
      refine AC.seq ?_
      refine AC.region ?_
      refine AL.p (by exact g_fa_ref rfl rfl rfl rfl rfl rfl) rfl ?_
      refine AL.p (by exact g_load_ref rfl rfl rfl) rfl ?_
      refine AL.p (by exact g_fa_ref rfl rfl rfl rfl rfl rfl) rfl ?_
      refine AL.p (by exact g_load_ref rfl rfl rfl) rfl ?_
      refine AL.q (by exact h_pure en_eqBurS rfl rfl (by repeat (first | exact rfl | exact DLead.same | refine ⟨_, _, rfl, ?_, ?_⟩)) k2 rfl) rfl ?_
      refine AL.p (by exact g_not rfl) rfl ?_
      refine AL.nil ?_
      refine th_n ?_
      refine AC.condND rfl (fun h2 => ?_) (fun h2 => ?_)
      · refine AC.seq ?_
        refine AC.region ?_
        refine AL.p (by exact as1 rfl) rfl ?_
        refine AL.nil ?_
        refine th_n ?_
        refine AC.ret ?_
        refine th_r ?_
        refine bq_r ?_
        exact ret1 rfl (by simp_all [bstr_iff])
      · refine AC.skip ?_
        refine th_n ?_
        refine AC.seq ?_
        refine AC.seq ?_
        refine AC.region ?_
        refine AL.p (by exact g_fa_ref rfl rfl rfl rfl rfl rfl) rfl ?_
        refine AL.p (by exact g_load_ref rfl rfl rfl) rfl ?_
        refine AL.p (by exact g_fa_ref rfl rfl rfl rfl rfl rfl) rfl ?_
        refine AL.p (by exact g_load_ref rfl rfl rfl) rfl ?_
        refine AL.p (by exact g_scmp rfl rfl rfl) rfl ?_
        refine AL.nil ?_
        refine th_n ?_
        refine AC.condND rfl (fun h3 => ?_) (fun h3 => ?_)
        · refine AC.seq ?_
          refine AC.region ?_
          refine AL.p (by exact as1 rfl) rfl ?_
          refine AL.nil ?_
          refine th_n ?_
          refine AC.ret ?_
          refine th_r ?_
          refine bq_r ?_
          exact ret1 rfl (by simp_all [bstr_iff])
        · refine AC.skip ?_
          refine th_n ?_
          refine AC.seq ?_
          refine AC.region ?_
          refine AL.p (by exact as1 rfl) rfl ?_
          refine AL.nil ?_
          refine th_n ?_
          refine AC.ret ?_
          refine bq_r ?_
          exact ret1 rfl (by simp_all [bstr_iff])
theorem en_eqMach : Enters Try.prog 9 := enters_of Try.func9 rfl rfl
end Go.Proofs.Ytbmlfcjoeieibaa

set_option linter.all false
set_option maxRecDepth 20000
namespace Go.Proofs.Ytbmlfcjoeieibaa
open Go.RowKit

def allK (f : Nat → Bool) (n : Nat) : Bool := (List.range n).all f
theorem allK_iff {f : Nat → Bool} {n : Nat} : allK f n = true ↔ ∀ i, i < n → f i = true := by simp [allK]
theorem allK_yes {f : Nat → Bool} {n : Nat} (h : ∀ i, i < n → f i = true) : allK f n = true := allK_iff.2 h
theorem allK_no {f : Nat → Bool} {n i : Nat} (hi : i < n) (h : f i = false) : allK f n = false := by
  cases e : allK f n with
  | false => rfl
  | true => have := allK_iff.1 e i hi; rw [h] at this; cases this
def inI (n lo hi : Int) : Bool := decide (lo ≤ n) && decide (n ≤ hi)
theorem inI_iff {n lo hi : Int} : inI n lo hi = true ↔ lo ≤ n ∧ n ≤ hi := by simp [inI]
def isLow (b : UInt8) : Bool := decide (97 ≤ (b.toNat : Int)) && decide ((b.toNat : Int) ≤ 122)
def isDig (b : UInt8) : Bool := decide (48 ≤ (b.toNat : Int)) && decide ((b.toNat : Int) ≤ 57)
def nameC (i : Nat) (b : UInt8) : Bool := isLow b || (isDig b && !decide (i = 0))
def nameB (m : List UInt8) : Bool := allK (fun i => nameC i (m.getD i 0)) m.length && inI m.length 1 6
theorem nameC_iff {i : Nat} {b : UInt8} : nameC i b = true ↔ (97 ≤ (b.toNat : Int) ∧ (b.toNat : Int) ≤ 122) ∨ ((48 ≤ (b.toNat : Int) ∧ (b.toNat : Int) ≤ 57) ∧ i ≠ 0) := by simp [nameC, isLow, isDig]
theorem nameC_no {i : Nat} {b : UInt8} (h : ¬ ((97 ≤ (b.toNat : Int) ∧ (b.toNat : Int) ≤ 122) ∨ ((48 ≤ (b.toNat : Int) ∧ (b.toNat : Int) ≤ 57) ∧ i ≠ 0))) : nameC i b = false := by
  cases e : nameC i b with
  | false => rfl
  | true => exact absurd (nameC_iff.1 e) h
theorem nameB_no {m : List UInt8} {k : Nat} (hk : k < m.length) (h : nameC k (m.getD k 0) = false) : nameB m = false := by unfold nameB; rw [allK_no hk h, Bool.false_and]
theorem nameB_yes {m : List UInt8} (h : ∀ j, j < m.length → nameC j (m.getD j 0) = true) : nameB m = inI m.length 1 6 := by unfold nameB; rw [allK_yes h, Bool.true_and]
def sAt (l : List Sig) (k : Nat) : Sig := l.getD k ⟨[], 0⟩
theorem sAt_nat {l : List Sig} {k : Nat} (h : k < l.length) : sAt l k = l[k] := by unfold sAt; rw [List.getD_eq_getElem?_getD, List.getElem?_eq_getElem h]; rfl
def sigK (l : List Sig) (k : Nat) : Bool := nameB (sAt l k).name && (inI (sAt l k).kind 1 3 && !(l.take k).any (fun y => decide (y.name = (sAt l k).name)))
def sigsB (l : List Sig) : Bool := allK (sigK l) l.length && inI l.length 1 8
theorem sigsB_no {l : List Sig} {k : Nat} (hk : k < l.length) (h : sigK l k = false) : sigsB l = false := by unfold sigsB; rw [allK_no hk h, Bool.false_and]
theorem sigsB_yes {l : List Sig} (h : ∀ j, j < l.length → sigK l j = true) : sigsB l = inI l.length 1 8 := by unfold sigsB; rw [allK_yes h, Bool.true_and]
def lAt (l : List Lab) (k : Nat) : Lab := l.getD k ⟨0, false⟩
theorem lAt_nat {l : List Lab} {k : Nat} (h : k < l.length) : lAt l k = l[k] := by unfold lAt; rw [List.getD_eq_getElem?_getD, List.getElem?_eq_getElem h]; rfl
def labK (s : List Sig) (l : List Lab) (kind : Int) (k : Nat) : Bool := inI (lAt l k).sig 0 ((s.length : Int) - 1) && (decide ((sAt s (lAt l k).sig.toNat).kind = kind) && (decide (k = 0) || decide ((lAt l (k - 1)).sig < (lAt l k).sig)))
def labsB (s : List Sig) (l : List Lab) (kind : Int) : Bool := allK (labK s l kind) l.length
theorem labsB_no {s : List Sig} {l : List Lab} {kind : Int} {k : Nat} (hk : k < l.length) (h : labK s l kind k = false) : labsB s l kind = false := allK_no hk h
theorem labsB_in {s : List Sig} {l : List Lab} {kind : Int} (h : labsB s l kind = true) : ∀ x, x ∈ l → 0 ≤ x.sig ∧ x.sig < s.length := by
  intro x hx
  obtain ⟨k, hk, rfl⟩ := List.getElem_of_mem hx
  have := allK_iff.1 h k hk
  unfold labK at this
  rw [lAt_nat hk] at this
  simp only [Bool.and_eq_true] at this
  have := inI_iff.1 this.1
  omega
def burB (s : List Sig) (states : Int) (b : Bur) : Bool := inI b.from_ 0 (states - 1) && (inI b.to_ 0 (states - 1) && (!decide (b.inn.length = 0) && (labsB s b.inn 1 && labsB s b.out 2)))
def formB (m : Mach) : Bool := m.burs.all (burB m.sigs m.states) && ((m.sigs.all (fun s => decide (s.kind = 1 ∨ s.kind = 2)) && sigsB m.sigs) && (inI m.states 1 6 && (decide ((m.burs.length : Int) ≤ 6) && bitsB m.first m.sigs.length)))
def bitLb (up : Bool) : UInt8 := bif up then 49 else 48
def turnL (code : List UInt8) : List Lab → Option (List UInt8)
  | [] => some code
  | x :: l => if code.getD x.sig.toNat 0 = bitLb (!x.up) then turnL (code.set x.sig.toNat (bitLb x.up)) l else none
def cAtL (cs : List (List UInt8)) (i : Int) : List UInt8 := cs.getD i.toNat []
def stepB (cs : List (List UInt8)) (b : Bur) : Option (List (List UInt8)) :=
  if cAtL cs b.from_ = [] then some cs else
    match turnL (cAtL cs b.from_) (b.inn ++ b.out) with
    | none => none
    | some nx => if cAtL cs b.to_ ≠ [] ∧ cAtL cs b.to_ ≠ nx then none else some (cs.set b.to_.toNat nx)
def passB : List Bur → List (List UInt8) → Option (List (List UInt8))
  | [], cs => some cs
  | b :: bs, cs => match stepB cs b with | none => none | some cs' => passB bs cs'
def runB (bs : List Bur) : Nat → List (List UInt8) → Option (List (List UInt8))
  | 0, cs => some cs
  | n + 1, cs => match passB bs cs with | none => none | some cs' => runB bs n cs'
def begB (m : Mach) : List (List UInt8) := (List.replicate m.states.toNat ([] : List UInt8)).set 0 m.first
def codesB (m : Mach) : Option (List (List UInt8)) := runB m.burs m.states.toNat (begB m)
def amongB (a b : List Lab) : Bool := a.all (fun x => b.any (fun y => decide (x = y)))
def bAt (l : List Bur) (k : Nat) : Bur := l.getD k ⟨0, [], [], 0⟩
theorem bAt_nat {l : List Bur} {k : Nat} (h : k < l.length) : bAt l k = l[k] := by unfold bAt; rw [List.getD_eq_getElem?_getD, List.getElem?_eq_getElem h]; rfl
def pairB (l : List Bur) (i k : Nat) : Bool := decide (i = k) || (!decide ((bAt l i).from_ = (bAt l k).from_) || !amongB (bAt l i).inn (bAt l k).inn)
def maxB (l : List Bur) : Bool := allK (fun i => allK (pairB l i) l.length) l.length
def okCodes (m : Mach) : Bool := match codesB m with | none => false | some cs => !cs.any (fun c => decide (c = []))
def goodM (m : Mach) : Bool := formB m && (okCodes m && maxB m.burs)
/-- What is so of a machine of good form. -/
structure FormM (m : Mach) : Prop where
  st : 1 ≤ m.states ∧ m.states ≤ 6
  sl : 1 ≤ m.sigs.length ∧ m.sigs.length ≤ 8
  sb : sigsB m.sigs = true
  sk : ∀ s, s ∈ m.sigs → s.kind = 1 ∨ s.kind = 2
  bl : m.burs.length ≤ 6
  f : bitsB m.first m.sigs.length = true
  b : ∀ b, b ∈ m.burs → burB m.sigs m.states b = true
theorem formB_iff {m : Mach} (h : formB m = true) : FormM m := by
  simp only [formB, Bool.and_eq_true, List.all_eq_true, decide_eq_true_eq] at h
  obtain ⟨h1, ⟨h2, h3⟩, h4, h5, h6⟩ := h
  have h3' := h3
  unfold sigsB at h3'
  rw [Bool.and_eq_true] at h3'
  have h7 := inI_iff.1 h3'.2
  have h8 := inI_iff.1 h4
  exact ⟨h8, by omega, h3, h2, by omega, h6, h1⟩
theorem burB_iff {s : List Sig} {n : Int} {b : Bur} (h : burB s n b = true) : (0 ≤ b.from_ ∧ b.from_ < n) ∧ (0 ≤ b.to_ ∧ b.to_ < n) ∧ b.inn.length ≠ 0 ∧ labsB s b.inn 1 = true ∧ labsB s b.out 2 = true := by
  simp only [burB, Bool.and_eq_true, Bool.not_eq_true', decide_eq_false_iff_not] at h
  have h1 := inI_iff.1 h.1
  have h2 := inI_iff.1 h.2.1
  exact ⟨⟨h1.1, by omega⟩, ⟨h2.1, by omega⟩, h.2.2.1, h.2.2.2.1, h.2.2.2.2⟩
/-- A code of bits. -/
def BitC (n : Nat) (c : List UInt8) : Prop := c.length = n ∧ ∀ b, b ∈ c → b = 48 ∨ b = 49
theorem BitC.set {n : Nat} {c : List UInt8} (h : BitC n c) (i : Nat) (up : Bool) : BitC n (c.set i (bitLb up)) := by
  refine ⟨by rw [List.length_set]; exact h.1, fun b hb => ?_⟩
  rcases List.mem_or_eq_of_mem_set hb with h1 | rfl
  · exact h.2 b h1
  · cases up <;> simp [bitLb]
theorem turnL_bit {n : Nat} : ∀ {l : List Lab} {c c' : List UInt8}, BitC n c → turnL c l = some c' → BitC n c'
  | [], c, c', h, e => by simp only [turnL, Option.some.injEq] at e; subst e; exact h
  | x :: l, c, c', h, e => by
    simp only [turnL] at e
    split at e
    · exact turnL_bit (h.set _ _) e
    · cases e
/-- Codes of states: none yet, or one of bits. -/
structure CodesOk (n : Nat) (k : Nat) (cs : List (List UInt8)) : Prop where
  l : cs.length = k
  c : ∀ c, c ∈ cs → c = [] ∨ BitC n c
theorem CodesOk.at {n k : Nat} {cs : List (List UInt8)} (h : CodesOk n k cs) (i : Int) : cAtL cs i = [] ∨ BitC n (cAtL cs i) := by
  unfold cAtL
  rw [List.getD_eq_getElem?_getD]
  cases e : cs[i.toNat]? with
  | none => exact .inl rfl
  | some c => exact h.c c (List.mem_of_getElem? e)
theorem CodesOk.set {n k : Nat} {cs : List (List UInt8)} (h : CodesOk n k cs) (i : Nat) {c : List UInt8} (hc : BitC n c) : CodesOk n k (cs.set i c) := by
  refine ⟨by rw [List.length_set]; exact h.l, fun x hx => ?_⟩
  rcases List.mem_or_eq_of_mem_set hx with h1 | rfl
  · exact h.c x h1
  · exact .inr hc
theorem CodesOk.step {n k : Nat} {cs cs' : List (List UInt8)} {b : Bur} (h : CodesOk n k cs) (e : stepB cs b = some cs') : CodesOk n k cs' := by
  unfold stepB at e
  split at e
  · simp only [Option.some.injEq] at e; subst e; exact h
  · rename_i hne
    split at e
    · cases e
    · rename_i nx hnx
      split at e
      · cases e
      · simp only [Option.some.injEq] at e
        subst e
        have hb := (h.at b.from_).resolve_left hne
        exact h.set _ (turnL_bit hb hnx)
theorem bits_BitC {m : List UInt8} {n : Nat} (h : bitsB m n = true) : BitC n m := by
  unfold bitsB at h
  rw [Bool.and_eq_true, decide_eq_true_eq, List.all_eq_true] at h
  refine ⟨by omega, fun b hb => ?_⟩
  have := h.1 b hb
  simp only [bit, Bool.or_eq_true, decide_eq_true_eq] at this
  rcases this with h1 | h1
  · exact .inl (UInt8.toNat_inj.1 (by show b.toNat = 48; omega))
  · exact .inr (UInt8.toNat_inj.1 (by show b.toNat = 49; omega))
theorem CodesOk.beg {m : Mach} (h : FormM m) : CodesOk m.sigs.length m.states.toNat (begB m) := by
  unfold begB
  refine ⟨by rw [List.length_set, List.length_replicate], fun c hc => ?_⟩
  rcases List.mem_or_eq_of_mem_set hc with h1 | rfl
  · exact .inl (List.eq_of_mem_replicate h1)
  · exact .inr (bits_BitC h.f)
end Go.Proofs.Ytbmlfcjoeieibaa

