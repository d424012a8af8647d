/- Contracts of the functions of the program and of the reference, each proved by a walk through its code. -/
import Derived.WalkKit
import Derived.WalkSpells
import Derived.WalkLawsBesides
import Derived.Deep.Draws
import Derived.Lib.Hide
import Derived.Maps.AppendAt
import Derived.OwnWalk
import Derived.Deep.MidRow
import Derived.Laws.ResultCell
import Derived.Deep.Upon
import Derived.Great.FillDense
import Derived.Laws.Tables
import Derived.Laws.BytesArg
import Derived.Laws.MakeOwn
import Derived.Great.BuildSlice
import Derived.ArgAppend
import Derived.Deep.AppendSrc
import Derived.Test.YthafkkgmekgmoaaGreatProg
import Derived.KernelRfl
import Derived.Orders
import Derived.Laws.IdiomStrings
import Derived.Lib.AppendZerosOnto
import Derived.ProofKit
import Derived.OpenShut
import Derived.Lib.SliceRun
import Derived.Laws.StructEq
import Derived.ChangeKeysEq
import Derived.Sort.Grow
import Derived.Laws.RangeString
import Derived.Below
import Derived.Laws.Small
import Derived.MapKept
import Derived.WideMake
import Derived.Laws.IdiomCopy
import Derived.Test.YthafkkgmekgmoaaGreatGRd6
set_option linter.all false
set_option maxRecDepth 20000
namespace Go.Proofs.YthafkkgmekgmoaaGreat
open Go.RowKit
theorem exIn_I {N : Net} {k : Nat} {m : List UInt8} (hm : bitsB m N.places = true) : ∀ (L : List Int) {x : Ex} {q : Nat}, ExI N x q → ExI N (exIn N k m L x).1 (q + L.length)
 | [], x, q, h => h
 | t :: ts, x, q, h => by
  rw [exIn]
  split
  ·rename_i hf
   have hb := fireI_bits (N := N) hm hf
   split
   ·rename_i i he
    have := exIn_I (k := k) hm ts (x := ⟨x.marks, x.moves ++ [⟨k, t, (i : Int)⟩]⟩) (q := q + 1) ⟨h.n, h.b, by show (x.moves ++ _).length ≤ _; rw [List.length_append]; have := h.l; simp only [List.length_cons, List.length_nil]; omega⟩
    rw [List.length_cons, show q + (ts.length + 1) = q + 1 + ts.length by omega]
    exact this
   ·split
    ·exact ⟨h.n, h.b, by have := h.l; dsimp only; omega⟩
    ·rename_i hn
     have := exIn_I (k := k) hm ts (x := ⟨x.marks ++ [(fireI N m t).1], x.moves ++ [⟨k, t, x.marks.length⟩]⟩) (q := q + 1) ⟨by show (x.marks ++ _).length ≤ _; rw [List.length_append]; have := h.n; simp only [List.length_cons, List.length_nil]; omega, fun a ha => (List.mem_append.1 ha).elim (h.b a) (fun h => by rw [List.mem_singleton.1 h]; exact hb), by show (x.moves ++ _).length ≤ _; rw [List.length_append]; have := h.l; simp only [List.length_cons, List.length_nil]; omega⟩
     rw [List.length_cons, show q + (ts.length + 1) = q + 1 + ts.length by omega]
     exact this
  ·exact ⟨h.n, h.b, by have := h.l; dsimp only; omega⟩
theorem exOut_I {N : Net} (hN : N.ts.length ≤ 24) : ∀ (n k : Nat) {x : Ex} {q : Nat}, ExI N x q → ExI N (exOut N n k x).1 (q + 24 * n)
 | 0, k, x, q, h => h
 | n + 1, k, x, q, h => by
  rw [exOut]
  split
  ·rename_i hk
   have hm := h.b _ (List.getElem_mem hk)
   rw [← mkAt_nat hk] at hm
   have hL := readyL_len N (mkAt x k) N.ts.length
   have h1 := exIn_I (k := k) hm (readyL N (mkAt x k) N.ts.length) h
   split
   ·rename_i y e
    rw [e] at h1
    have := exOut_I hN n (k + 1) (x := y) (q := q + 24) ⟨h1.n, h1.b, by have := h1.l; dsimp only at this; omega⟩
    rw [show q + 24 * (n + 1) = q + 24 + 24 * n by omega]
    exact this
   ·exact ⟨h1.n, h1.b, by have := h1.l; omega⟩
  ·exact ⟨h.n, h.b, by have := h.l; dsimp only; omega⟩
def explS (s : Stg) : Ex × Bool := if (goodS s && exB (explR s.net s.start)) = true then ((explR s.net s.start).1, true) else (⟨[], []⟩, false)
theorem explS_in (s : Stg) : (explS s).1.marks.length ≤ 300 ∧ (explS s).1.moves.length ≤ 10000 := by
 unfold explS
 split
 ·rename_i h
  have hg := (Bool.and_eq_true_iff.1 h).1
  have h1 : goodN s.net = true ∧ bitsB s.start s.net.places = true := by
   simp only [goodS, Bool.and_eq_true] at hg
   exact hg.1
  have := exOut_I (good_places h1.1).2.2 301 0 (x := ⟨[s.start], []⟩) (q := 0) ⟨by show 1 ≤ 300; omega, fun m hm => by rw [List.mem_singleton.1 hm]; exact h1.2, Nat.le_refl _⟩
  exact ⟨this.n, Nat.le_trans this.l (by omega)⟩
 ·exact ⟨Nat.zero_le _, Nat.zero_le _⟩
set_option maxHeartbeats 2000000 in
theorem iExplore_spec (s : Stg) (hB : StgB s) : ASpec Tryz.prog 11 [stgA s] [] (Pure1 (.tup [rgA (explS s).1, aT (explS s).2])) := by
 have hV := iIsValidSTG_spec s hB.L
 have hX := iExplored_spec s hB
 have hR : explS s = if (goodS s && exB (explR s.net s.start)) = true then ((explR s.net s.start).1, true) else (⟨[], []⟩, false) := rfl
 obtain ⟨b, hb⟩ : ∃ b, b = goodS s := ⟨_, rfl⟩
 rw [← hb] at hV hX hR
 obtain ⟨c, hc⟩ : ∃ c, c = exB (explR s.net s.start) := ⟨_, rfl⟩
 rw [← hc] at hX hR
 obtain ⟨x, hx⟩ : ∃ x, x = (explR s.net s.start).1 := ⟨_, rfl⟩
 obtain ⟨k, hk⟩ : ∃ k, k = exK (explR s.net s.start) := ⟨_, rfl⟩
 obtain ⟨t, ht⟩ : ∃ t, t = exT (explR s.net s.start) := ⟨_, rfl⟩
 rw [← hx, ← hk, ← ht] at hX
 rw [← hx] at hR
 obtain ⟨G, hG⟩ : ∃ G, G = explS s := ⟨_, rfl⟩
 rw [← hG] at hR ⊢
 have hN1 : b = false → G = (⟨[], []⟩, false) := fun q => hR.trans (if_neg (by rw [q]; simp))
 have hN2 : c = false → G = (⟨[], []⟩, false) := fun q => hR.trans (if_neg (by rw [q]; simp))
 clear hG hb hc hx hk ht
 refine ASpec.of Tryz.func11 rfl rfl fun C hC => ?_
 refine AC.seq (AC.region ?_)
 refine AL.q (by exact h_boxF rfl rfl) rfl ?_
 refine AL.q (by exact h_alloc rfl) rfl ?_
 refine AL.p (by exact as1 rfl) rfl ?_
 refine AL.nil (th_n (AC.seq (AC.seq (AC.region ?_))))
 refine AL.p (by exact g_load_refN rfl rfl rfl rfl) rfl ?_
 refine AL.q (by exact h_pure en_iIsValidSTG rfl rfl (by repeat (first | exact rfl | exact DLead.same | refine ⟨_, _, rfl, ?_, ?_⟩ | refine ⟨_, rfl, ?_⟩)) hV rfl) rfl ?_
 refine AL.p (by exact g_not rfl) rfl ?_
 refine AL.nil (th_n ?_)
 refine AC.condB rfl (fun h0 => ?_) (fun h0 => ?_)
 ·refine AC.seq (AC.region ?_)
  refine AL.p (by exact g_build rfl rfl rfl) rfl ?_
  refine AL.q (by exact h_store rfl rfl rfl rfl rfl rfl) rfl ?_
  refine AL.p (by exact as1 rfl) rfl ?_
  refine AL.nil (th_n (AC.ret (th_r (bq_r ?_))))
  have e := hN1 (by simpa using h0)
  exact ret0 rfl (by rw [e]; show AV.leads _ (.tup [rgA ⟨[], []⟩, aT false]) _; repeat (first | exact DLead.same | exact DLead.nil | exact rfl | refine ⟨_, rfl, ?_⟩ | refine ⟨_, _, rfl, ?_, ?_⟩))
 ·refine AC.skip (th_n (AC.seq ?_))
  have q1 : b = true := by simpa using h0
  have hX2 := hX q1
  refine AC.region ?_
  refine AL.p (by exact g_load_refN rfl rfl rfl rfl) rfl ?_
  refine AL.q (by exact h_pure en_iExplored rfl rfl (by repeat (first | exact rfl | exact DLead.same | refine ⟨_, _, rfl, ?_, ?_⟩ | refine ⟨_, rfl, ?_⟩)) hX2 rfl) rfl ?_
  refine AL.p (by exact mv5 rfl) rfl ?_
  refine AL.p (by exact g_extract (r := .agg _) rfl rfl) rfl ?_
  refine AL.p (by exact g_extract (r := .d _) rfl rfl) rfl ?_
  refine AL.p (by exact g_extract (r := .d _) rfl rfl) rfl ?_
  refine AL.p (by exact g_extract (r := .d _) rfl rfl) rfl ?_
  refine AL.q (by exact h_alloc rfl) rfl ?_
  refine AL.q (by exact h_store rfl rfl rfl rfl rfl rfl) rfl ?_
  refine AL.p (by exact as1 rfl) rfl ?_
  refine AL.p (by exact as1 rfl) rfl ?_
  refine AL.p (by exact as1 rfl) rfl ?_
  refine AL.nil (th_n (AC.seq (AC.seq (AC.region ?_))))
  refine AL.p (by exact mv1 rfl) rfl ?_
  refine AL.p (by exact g_not rfl) rfl ?_
  refine AL.nil (th_n ?_)
  refine AC.condB rfl (fun h1 => ?_) (fun h1 => ?_)
  ·refine AC.seq (AC.region ?_)
   refine AL.p (by exact g_build rfl rfl rfl) rfl ?_
   refine AL.q (by exact h_store rfl rfl rfl rfl rfl rfl) rfl ?_
   refine AL.p (by exact as1 rfl) rfl ?_
   refine AL.nil (th_n (AC.ret (th_r (bq_r ?_))))
   have e := hN2 (by simpa using h1)
   exact ret0 rfl (by rw [e]; show AV.leads _ (.tup [rgA ⟨[], []⟩, aT false]) _; repeat (first | exact DLead.same | exact DLead.nil | exact rfl | refine ⟨_, rfl, ?_⟩ | refine ⟨_, _, rfl, ?_, ?_⟩))
  ·refine AC.skip (th_n (AC.seq (AC.region ?_)))
   refine AL.p (by exact g_load_ptrN rfl rfl rfl rfl rfl) rfl ?_
   refine AL.q (by exact h_store rfl rfl rfl rfl rfl rfl) rfl ?_
   refine AL.p (by exact as1 rfl) rfl ?_
   refine AL.nil (th_n (AC.ret (bq_r ?_)))
   have q2 : c = true := by simpa using h1
   have e : G = (x, true) := hR.trans (if_pos (by rw [q1, q2]; rfl))
   exact ret0 rfl (by rw [e]; show AV.leads _ (.tup [rgA x, aT true]) _; repeat (first | exact DLead.same | exact rfl | refine ⟨_, rfl, ?_⟩ | refine ⟨_, _, rfl, ?_, ?_⟩))
theorem en_iExplore : Enters Tryz.prog 11 := enters_of Tryz.func11 rfl rfl
theorem sameTexts_spec (a : List (List UInt8)) (ha : a.length ≤ 1000000) : ASpec Tryz.prog 100 [.d (.view 9 1 (tsX a)), .d (.view 9 1 (tsX a))] [] (Pure1 (aT true)) := by
 refine ASpec.of Tryz.func100 rfl rfl fun C hC => ?_
 refine AC.seq (AC.region ?_)
 refine AL.p (by exact as1 rfl) rfl ?_
 refine AL.nil (th_n (AC.seq (AC.seq (AC.region ?_))))
 refine AL.p (by exact mv1 rfl) rfl ?_
 refine AL.p (by exact g_len_view (k := a.length) rfl rfl (tsX_len _)) rfl ?_
 refine AL.p (by exact mv1 rfl) rfl ?_
 refine AL.p (by exact g_len_view (k := a.length) rfl rfl (tsX_len _)) rfl ?_
 refine AL.p (by exact g_neIr rfl rfl rfl) rfl ?_
 refine AL.nil (th_n ?_)
 refine AC.condF rfl ?_
 refine AC.skip (th_n (AC.seq (AC.seq (AC.region ?_))))
 refine AL.p (by exact mv1 rfl) rfl ?_
 refine AL.p (by exact g_len_view (k := a.length) rfl rfl (tsX_len _)) rfl ?_
 refine AL.p (by exact mv1 rfl) rfl ?_
 refine AL.nil (th_n (AC.block ?_))
 refine AC.loop (ι := Nat) (fun k => ⟨26, 0, [(0, .d (.view 9 1 (tsX a))), (1, .d (.view 9 1 (tsX a))), (12, aI a.length), (13, aI k)], []⟩) (fun k => k ≤ a.length) (fun k => a.length - k) (0) ?_ (Nat.zero_le _) ?_
 ·refine Weak.ren _ [] hC rfl ?_ ?_ rfl rfl rfl <;> repeat (first | exact True.intro | refine And.intro ?_ ?_ | exact DLead.same)
 ·intro k hk
  refine AC.seq (AC.region ?_)
  refine AL.p (by exact g_cmp rfl rfl rfl) rfl ?_
  refine AL.nil (th_n (AC.seq ?_))
  refine AC.condD rfl (fun h0 => ?_) (fun h0 => ?_)
  ·refine AC.skip (th_n (AC.seq (AC.block (AC.seq ?_))))
   have hk1 : k < a.length := by omega
   have hget := tsX_get hk1
   refine AC.region ?_
   refine AL.p (by exact mv1 rfl) rfl ?_
   refine AL.p (by exact as1 rfl) rfl ?_
   refine AL.nil (th_n (AC.seq ?_))
   refine AC.drawn' mixed_ok [[], [], [0,1], [0,1,2], [], [], [4,5], [4,5,6], [0,1,2,3,4,5,6,7]] (by decide) ?_
   refine DF.op 0 [] 9 rfl rfl rfl (.free rfl (NOp.of (by exact mv1 rfl))) rfl ?_
   refine DF.op 1 [] 9 rfl rfl rfl (.free rfl (NOp.of (by exact mv1 rfl))) rfl ?_
   refine DF.op 2 [0,1] 9 rfl rfl rfl (.free rfl (NOp.of (by exact g_ia_view rfl rfl rfl rfl rfl (by rfl) (by assumption)))) rfl ?_
   refine DF.op 3 [0,1,2] 9 rfl rfl rfl (.free rfl (NOp.of (by exact g_load_ref rfl rfl rfl))) rfl ?_
   refine DF.op 4 [] 9 rfl rfl rfl (.free rfl (NOp.of (by exact mv1 rfl))) rfl ?_
   refine DF.op 5 [] 9 rfl rfl rfl (.free rfl (NOp.of (by exact mv1 rfl))) rfl ?_
   refine DF.op 6 [4,5] 9 rfl rfl rfl (.free rfl (NOp.of (by exact g_ia_view rfl rfl rfl rfl rfl (by rfl) (by assumption)))) rfl ?_
   refine DF.op 7 [4,5,6] 9 rfl rfl rfl (.free rfl (NOp.of (by exact g_load_ref rfl rfl rfl))) rfl ?_
   refine DF.op 8 [0,1,2,3,4,5,6,7] 9 rfl rfl rfl (.free rfl (NOp.of (by exact g_neSr rfl rfl rfl))) rfl ?_
   refine DF.fin (ps := [(0,1),(0,4),(0,5),(0,6),(0,7),(1,0),(1,4),(1,5),(1,6),(1,7),(2,4),(2,5),(2,6),(2,7),(3,4),(3,5),(3,6),(3,7),(4,0),(4,1),(4,2),(4,3),(4,5),(5,0),(5,1),(5,2),(5,3),(5,4),(6,0),(6,1),(6,2),(6,3),(7,0),(7,1),(7,2),(7,3)]) 9 rfl (by decide +kernel) (by decide +kernel) (by rfl) ?_
   refine th_n ?_
   refine AC.condF rfl ?_
   refine AC.skip (ib_n (th_n (AC.region ?_)))
   refine AL.p (by exact g_arith rfl rfl rfl (by exact wrap_i64 (by omega))) rfl ?_
   refine AL.p (by exact mv1 rfl) rfl ?_
   refine AL.nil (th_n ?_)
   exact ⟨k + 1, by omega, by omega, Weak.ren _ [] hC rfl (by repeat (first | exact True.intro | refine And.intro ?_ ?_ | exact DLead.same)) (by repeat (exact True.intro)) rfl rfl rfl⟩
  ·refine AC.exit (th_e (th_e (ib_y (th_n (AC.seq (AC.region ?_))))))
   refine AL.p (by exact as1 rfl) rfl ?_
   refine AL.nil (th_n (AC.ret (bq_r ?_)))
   exact ret1 rfl rfl
theorem en_sameTexts : Enters Tryz.prog 100 := enters_of Tryz.func100 rfl rfl
set_option maxHeartbeats 1000000 in
theorem pSameReach_spec (x : Ex) (h1l : x.marks.length ≤ 1000000) (h2l : x.moves.length ≤ 1000000) : ASpec Tryz.prog 13 [rgA x, rgA x] [] (Pure1 (aT true)) := by
 have hT := sameTexts_spec x.marks h1l
 refine ASpec.of Tryz.func13 rfl rfl fun C hC => ?_
 refine AC.seq (AC.region ?_)
 refine AL.q (by exact h_boxF rfl rfl) rfl ?_
 refine AL.q (by exact h_boxF rfl rfl) rfl ?_
 refine AL.p (by exact as1 rfl) rfl ?_
 refine AL.nil (th_n (AC.seq (AC.seq (AC.region ?_))))
 refine AL.p (by exact g_fa_ref rfl rfl rfl rfl rfl rfl) rfl ?_
 refine AL.p (by exact g_load_ref rfl rfl rfl) rfl ?_
 refine AL.p (by exact g_fa_ref rfl rfl rfl rfl rfl rfl) rfl ?_
 refine AL.p (by exact g_load_ref rfl rfl rfl) rfl ?_
 refine AL.q (by exact h_pure en_sameTexts rfl rfl (by repeat (first | exact rfl | exact DLead.same | refine ⟨_, _, rfl, ?_, ?_⟩)) hT rfl) rfl ?_
 refine AL.p (by exact g_not rfl) rfl ?_
 refine AL.p (by exact mv1 rfl) rfl ?_
 refine AL.yes rfl rfl rfl ?_
 refine AL.p (by exact g_fa_ref rfl rfl rfl rfl rfl rfl) rfl ?_
 refine AL.yes rfl rfl rfl ?_
 refine AL.p (by exact g_load_ref rfl rfl rfl) rfl ?_
 refine AL.yes rfl rfl rfl ?_
 refine AL.p (by exact g_len_view (k := x.moves.length) rfl rfl (mvL_len _)) rfl ?_
 refine AL.yes rfl rfl rfl ?_
 refine AL.p (by exact g_fa_ref rfl rfl rfl rfl rfl rfl) rfl ?_
 refine AL.yes rfl rfl rfl ?_
 refine AL.p (by exact g_load_ref rfl rfl rfl) rfl ?_
 refine AL.yes rfl rfl rfl ?_
 refine AL.p (by exact g_len_view (k := x.moves.length) rfl rfl (mvL_len _)) rfl ?_
 refine AL.yes rfl rfl rfl ?_
 refine AL.p (by exact g_neIr rfl rfl rfl) rfl ?_
 refine AL.p (by exact g_pickF (r := .d _) rfl rfl) rfl ?_
 refine AL.nil (th_n ?_)
 refine AC.condF rfl ?_
 refine AC.skip (th_n (AC.seq (AC.seq (AC.region ?_))))
 refine AL.p (by exact g_fa_ref rfl rfl rfl rfl rfl rfl) rfl ?_
 refine AL.p (by exact g_load_ref rfl rfl rfl) rfl ?_
 refine AL.p (by exact g_len_view (k := x.moves.length) rfl rfl (mvL_len _)) rfl ?_
 refine AL.p (by exact mv1 rfl) rfl ?_
 refine AL.nil (th_n (AC.block ?_))
 refine AC.loop (ι := Nat) (fun k => ⟨39, 0, [(2, .d (.ref (rgD x))), (3, .d (.ref (rgD x))), (23, aI x.moves.length), (24, aI k)], []⟩) (fun k => k ≤ x.moves.length) (fun k => x.moves.length - k) (0) ?_ (Nat.zero_le _) ?_
 ·refine Weak.ren _ [] hC rfl ?_ ?_ rfl rfl rfl <;> repeat (first | exact True.intro | refine And.intro ?_ ?_ | exact DLead.same)
 ·intro k hk
  refine AC.seq (AC.region ?_)
  refine AL.p (by exact g_cmp rfl rfl rfl) rfl ?_
  refine AL.nil (th_n (AC.seq ?_))
  refine AC.condD rfl (fun h0 => ?_) (fun h0 => ?_)
  ·refine AC.skip (th_n (AC.seq (AC.block (AC.seq ?_))))
   have hk1 : k < x.moves.length := by omega
   have hget := mvL_get hk1
   refine AC.region ?_
   refine AL.p (by exact mv1 rfl) rfl ?_
   refine AL.p (by exact as1 rfl) rfl ?_
   refine AL.nil (th_n (AC.seq ?_))
   refine AC.drawn' mixed_ok [[], [0], [], [0,1,2], [0,1,2,3], [], [5], [], [5,6,7], [5,6,7,8], [0,1,2,3,4,5,6,7,8,9]] (by decide) ?_
   refine DF.op 0 [] 11 rfl rfl rfl (.free rfl (NOp.of (by exact g_fa_ref rfl rfl rfl rfl rfl rfl))) rfl ?_
   refine DF.op 1 [0] 11 rfl rfl rfl (.free rfl (NOp.of (by exact g_load_ref rfl rfl rfl))) rfl ?_
   refine DF.op 2 [] 11 rfl rfl rfl (.free rfl (NOp.of (by exact mv1 rfl))) rfl ?_
   refine DF.op 3 [0,1,2] 11 rfl rfl rfl (.free rfl (NOp.of (by exact g_ia_view rfl rfl rfl rfl rfl (by rfl) (by assumption)))) rfl ?_
   refine DF.op 4 [0,1,2,3] 11 rfl rfl rfl (.free rfl (NOp.of (by exact g_load_refN rfl rfl rfl rfl))) rfl ?_
   refine DF.op 5 [] 11 rfl rfl rfl (.free rfl (NOp.of (by exact g_fa_ref rfl rfl rfl rfl rfl rfl))) rfl ?_
   refine DF.op 6 [5] 11 rfl rfl rfl (.free rfl (NOp.of (by exact g_load_ref rfl rfl rfl))) rfl ?_
   refine DF.op 7 [] 11 rfl rfl rfl (.free rfl (NOp.of (by exact mv1 rfl))) rfl ?_
   refine DF.op 8 [5,6,7] 11 rfl rfl rfl (.free rfl (NOp.of (by exact g_ia_view rfl rfl rfl rfl rfl (by rfl) (by assumption)))) rfl ?_
   refine DF.op 9 [5,6,7,8] 11 rfl rfl rfl (.free rfl (NOp.of (by exact g_load_refN rfl rfl rfl rfl))) rfl ?_
   refine DF.op 10 (List.range 10) 11 rfl rfl rfl (.free rfl (NOp.of (by exact g_eq3 (r := false) (by decide +kernel) rfl rfl (by simp [eqOf])))) rfl ?_
   refine DF.fin (ps := [(0,2),(0,5),(0,6),(0,7),(0,8),(0,9),(1,2),(1,5),(1,6),(1,7),(1,8),(1,9),(2,0),(2,1),(2,5),(2,6),(2,7),(2,8),(2,9),(3,5),(3,6),(3,7),(3,8),(3,9),(4,5),(4,6),(4,7),(4,8),(4,9),(5,0),(5,1),(5,2),(5,3),(5,4),(5,7),(6,0),(6,1),(6,2),(6,3),(6,4),(6,7),(7,0),(7,1),(7,2),(7,3),(7,4),(7,5),(7,6),(8,0),(8,1),(8,2),(8,3),(8,4),(9,0),(9,1),(9,2),(9,3),(9,4)]) 11 rfl (by decide +kernel) (by decide +kernel) (by rfl) ?_
   refine th_n ?_
   refine AC.condF rfl ?_
   refine AC.skip (ib_n (th_n (AC.region ?_)))
   refine AL.p (by exact g_arith rfl rfl rfl (by exact wrap_i64 (by omega))) rfl ?_
   refine AL.p (by exact mv1 rfl) rfl ?_
   refine AL.nil (th_n ?_)
   exact ⟨k + 1, by omega, by omega, Weak.ren _ [] hC rfl (by repeat (first | exact True.intro | refine And.intro ?_ ?_ | exact DLead.same)) (by repeat (exact True.intro)) rfl rfl rfl⟩
  ·refine AC.exit (th_e (th_e (ib_y (th_n (AC.seq (AC.region ?_))))))
   refine AL.p (by exact as1 rfl) rfl ?_
   refine AL.nil (th_n (AC.ret (bq_r ?_)))
   exact ret1 rfl rfl
theorem en_pSameReach : Enters Tryz.prog 13 := enters_of Tryz.func13 rfl rfl
theorem findI_or {α : Type} (p : α → Bool) (l : List α) : (findI p l = -1 ∧ ∀ j (hj : j < l.length), p l[j] = false) ∨ ∃ k, ∃ hk : k < l.length, findI p l = (k : Int) ∧ p l[k] = true ∧ ∀ j (hj : j < l.length), j < k → p l[j] = false := by
 by_cases h : l.findIdx p < l.length
 ·right
  refine ⟨l.findIdx p, h, ?_, List.findIdx_getElem, fun j hj hjk => by simpa using List.not_of_lt_findIdx hjk⟩
  unfold findI
  rw [if_pos h]
 ·left
  have e : l.findIdx p = l.length := by have := List.findIdx_le_length (p := p) (xs := l); omega
  refine ⟨by unfold findI; rw [if_neg h], fun j hj => ?_⟩
  have := List.findIdx_eq_length.1 e l[j] (List.getElem_mem hj)
  simpa using this
theorem filter_no {α : Type} {p : α → Bool} {l : List α} (h : ∀ j (hj : j < l.length), p l[j] = false) : l.filter (fun x => !p x) = l := by
 rw [List.filter_eq_self]
 intro x hx
 obtain ⟨j, hj, rfl⟩ := List.getElem_of_mem hx
 rw [h j hj]; rfl
theorem filt_take {α : Type} {p : α → Bool} {l : List α} {k : Nat} (hk : k < l.length) : (l.take (k + 1)).filter (fun x => !p x) = (l.take k).filter (fun x => !p x) ++ (if p l[k] = true then [] else [l[k]]) := by
 rw [List.take_add_one, List.getElem?_eq_getElem hk, List.filter_append]
 congr 1
 cases h : p l[k] <;> simp [h]
structure DelI {α : Type} (p : α → Bool) (l : List α) (i j : Nat) (e : List α) : Prop where
 len : e.length = l.length
 lt : i < j
 le : j ≤ l.length
 kept : e.take i = (l.take j).filter fun x => !p x
 rest : e.drop j = l.drop j
theorem DelI.get {α : Type} {p : α → Bool} {l e : List α} {i j : Nat} (h : DelI p l i j e) (hj : j < l.length) : e[j]? = some l[j] := by
 have : (e.drop j)[0]? = (l.drop j)[0]? := by rw [h.rest]
 rw [List.getElem?_drop, List.getElem?_drop, Nat.add_zero, List.getElem?_eq_getElem hj] at this
 exact this
theorem DelI.skip {α : Type} {p : α → Bool} {l e : List α} {i j : Nat} (h : DelI p l i j e) (hj : j < l.length) (hp : p l[j] = true) : DelI p l i (j + 1) e :=
 ⟨h.len, by have := h.lt; omega, hj, by rw [filt_take hj, if_pos hp, List.append_nil]; exact h.kept, by
  have : (e.drop j).drop 1 = (l.drop j).drop 1 := by rw [h.rest]
  rwa [List.drop_drop, List.drop_drop] at this⟩
theorem DelI.move {α : Type} {p : α → Bool} {l e : List α} {i j : Nat} (h : DelI p l i j e) (hj : j < l.length) (hp : p l[j] = false) : DelI p l (i + 1) (j + 1) (e.set i l[j]) := by
 have h1 := h.len
 have h2 := h.lt
 refine ⟨by rw [List.length_set]; exact h1, by omega, hj, ?_, ?_⟩
 ·rw [filt_take hj, if_neg (by rw [hp]; simp), ← h.kept, List.take_add_one, List.take_set_of_le (Nat.le_refl _), List.getElem?_set_self (by omega)]
  rfl
 ·rw [List.drop_set_of_lt (by omega)]
  have : (e.drop j).drop 1 = (l.drop j).drop 1 := by rw [h.rest]
  rwa [List.drop_drop, List.drop_drop] at this
section
variable {P : Program} [PT P] {s : ASt} {dst : Option Nat} {ty : Nat} {pos : String} {af : Array Edge} {gd : Option (Nat × Bool)} {x y : Operand} {f t : Nat}
theorem g_slice_part {e n bt sz id k l h o : Nat} {zs : List ZK} {te : TS} {lo hi : Option Operand} (ht : PT.ty P t = some ⟨.slice e, n, bt, zs⟩) (he : PT.ty P e = some te) (hs : te.size = sz) {els : List (List DV)} {e' : Nat} (hx : s.ev x = .own id k) (hc : s.chunk id = some (.arr e' sz els)) (hlo : OptEv s lo 0 l) (hhi : OptEv s hi k h) (h1 : l ≤ h) (h2 : h ≤ els.length) (ho : l * sz = o) {q : Nat} (hq : h - l = q) :
  GOp P [id] s ⟨dst, .slice t x lo hi none, ty, pos, af, gd⟩ (.part id o q) := by
 subst ho hq
 refine ⟨fun s' ha C U a w m hR => ?_⟩
 have hv := hR.ev x
 rw [ha.2.1 x (by simp [Op.operands]), hx] at hv
 have hc' : s'.chunk id = some (.arr e' sz els) := by rw [ha.2.2 id (by simp)]; exact hc
 have olo := optEv_run ha hR hlo (by rintro x rfl; simp [Op.operands])
 have ohi := optEv_run ha hR hhi (by rintro x rfl; cases lo <;> simp [Op.operands])
 generalize hvv : a.eval x = v at hv
 cases hv with
 | own hp h0 =>
  rename_i cap b
  have hle : els.length ≤ cap ∧ (0 < els.length → ∃ k, b = some k) := by
   cases hR.chunkAt hc' hp with
   | arr _ _ _ h _ => exact ⟨h, fun _ => ⟨_, rfl⟩⟩
   | nil => simp
  have hb := run_bounds (P := P) (isS := true) (len := k) (cap := cap) (mx := none) (l := l) (mm := cap) olo ohi (.inl ⟨rfl, rfl⟩) h1 (by omega) (Nat.le_refl _) w
  refine ⟨_, ?_, .part (b := b) (cap := cap) (a := if cap = l then b.map (fun b => ⟨b, 0, none⟩) else (b.map (fun b => (⟨b, 0, none⟩ : Addr))).map (·.add (l * sz))) (c := cap - l) hp (fun hpos => ?_)⟩
  ·simp only [execOp, Sem.run_bind, hvv, Option.map_none, run_sliceS ht he hs hb, Result.andThen_ok, Sem.run_pure]
  ·obtain ⟨q, rfl⟩ := hle.2 (by omega)
   refine ⟨q, rfl, ?_⟩
   rw [if_neg (by omega)]
   simp [addr_add]
inductive CpTo (s : ASt) (x : Operand) (sz id i n : Nat) : Prop
 | own : s.ev x = .own id n → i = 0 → CpTo s x sz id i n
 | part {o : Nat} : s.ev x = .part id o n → o = i * sz → CpTo s x sz id i n
theorem run_copyN {w : World} {dT sT ty elem : TypeId} {b o dLen dCap sz : Nat} {d a : Option Addr} {sLen sCap : Nat} {cs : List Value}
  (hu : P.underlying dT = some (.slice elem)) (hs : (P.info? elem).map (·.size) = some sz) (hn : cs.length = Nat.min sLen dLen * sz)
  (hsrc : ∀ p, a = some p → ∀ j v, cs[j]? = some v → w.cell? (p.add j) = some v) (ha : a = none → cs = []) (hd : cs ≠ [] → d = some ⟨b, o, none⟩) (hc : ∀ j, j < cs.length → (w.cell? ⟨b, o + j, none⟩).isSome = true) (hf : ∀ j, j < cs.length → w.frozen? ⟨b, o + j, none⟩ = false) (h1 : ∀ v ∈ cs, v.oneCell' = true) :
  (Builtin.copy_ #[dT, sT] ty #[.slice d dLen dCap, .slice a sLen sCap]).run P w = .ok (goInt (Nat.min sLen dLen)) (w.setCells b o cs) := by
 have hst := run_storeCells_cells (P := P) b o cs 0 w (by simpa using hc) (by simpa using hf) h1
 have hl : ∀ p, a = some p → (loadCells p cs.length).run P w = .ok cs.toArray w := fun p hp => run_loadCells_list (P := P) w p cs (hsrc p hp)
 cases hq : P.info? elem with
 | none => simp [hq] at hs
 | some i =>
  have hi : i.size = sz := by simpa [hq] using hs
  have key : (Builtin.firstCells sz (Nat.min sLen dLen) (.slice a sLen sCap)).run P w = .ok cs.toArray w := by
   cases a with
   | none => rw [ha rfl]; simp [Builtin.firstCells]
   | some p => rw [← hl p rfl, hn]; rfl
  by_cases h0 : cs = []
  ·subst h0
   have hst0 : ∀ p : Addr, (storeCells p [] 0).run P w = .ok () w := fun p => rfl
   cases d <;> simp [Builtin.copy_, run_underlying hu, Builtin.lenOf, sizeOf, typeInfo, hq, hi, key, World.setCells, hst0]
  ·rw [hd h0]
   simp [Builtin.copy_, run_underlying hu, Builtin.lenOf, sizeOf, typeInfo, hq, hi, key, hst]
theorem h_copy {tx e n bt id sz i k q : Nat} {zs : List ZK} {te : TS} {els new : List (List DV)} {ids2 : List Nat} {e' : Nat} (ht : PT.ty P t = some ⟨.slice e, n, bt, zs⟩) (he : PT.ty P e = some te) (hs : te.size = sz) (hto : CpTo s x sz id i k) (hc : s.chunk id = some (.arr e' sz els)) (harg : AppArg s y sz new ids2) (hik : i + k ≤ els.length) (hk : k ≤ maxLen) (hq : min new.length k = q) :
  NOp P (id :: ids2) s ⟨dst, .call { callee := .builtin .copy, args := #[x, y], argTypes := #[t, tx] }, ty, pos, af, gd⟩ f ⟨aI (q : Int), [(id, some (.arr e' sz (els.take i ++ new.take q ++ els.drop (i + q))))]⟩ := by
 subst hq
 refine ⟨fun s' hag C U U' a w m hR hU hU' hd K Q hK => ?_⟩
 have hc' : s'.chunk id = some (.arr e' sz els) := by rw [hag.2.2 id (by simp)]; exact hc
 have hxr := hR.ev x
 rw [hag.2.1 x (by simp [Op.operands, Call.operands])] at hxr
 obtain ⟨vs, hv⟩ := harg.rows (hag.2.1 y (by simp [Op.operands, Call.operands])) (fun j hj => hag.2.2 j (List.mem_cons_of_mem _ hj)) hR
 obtain ⟨⟨sa, sc, hsv, hsrc, hnone⟩, hvl, hone, hrep, hrows⟩ := hv
 obtain ⟨p, hp, hC, hloc⟩ := hR.ch id _ hc'
 have hdst : ∃ d c, a.eval x = .slice d k c ∧ (0 < k → ∃ b, p.1 = some b ∧ d = some ⟨b, i * sz, none⟩) := by
  cases hto with
  | own h1 h2 =>
   subst h2
   rw [h1] at hxr
   generalize a.eval x = v at hxr
   cases hxr with
   | own hp' h0 =>
    rename_i cap b
    rw [hp] at hp'
    simp only [Option.some.injEq] at hp'
    subst hp'
    refine ⟨_, _, rfl, fun hk => ?_⟩
    cases b with
    | none => have := h0 rfl; omega
    | some b => exact ⟨b, rfl, by simp⟩
  | part h1 h2 =>
   subst h2
   rw [h1] at hxr
   generalize a.eval x = v at hxr
   cases hxr with
   | part hp' h0 =>
    rw [hp] at hp'
    simp only [Option.some.injEq] at hp'
    subst hp'
    exact ⟨_, _, rfl, h0⟩
 obtain ⟨d, c, hdv, hdp⟩ := hdst
 obtain ⟨i0, _, _, hi0, _, _, hsz0, _⟩ := PT.facts he
 have hinfo : (P.info? e).map (·.size) = some sz := by rw [hi0]; simp [hsz0, hs]
 let cs := vs.take (min new.length k * sz)
 have hcl : cs.length = min new.length k * sz := by
  show (vs.take _).length = _
  rw [List.length_take, hvl]
  exact Nat.min_eq_left (Nat.mul_le_mul_right _ (Nat.min_le_left ..))
 have hcs : ∀ (j : Nat) (v : Value), cs[j]? = some v → vs[j]? = some v := by
  intro j v hj
  change (vs.take _)[j]? = _ at hj
  rw [List.getElem?_take] at hj
  split at hj
  ·exact hj
  ·cases hj
 have h1 : ∀ v ∈ cs, v.oneCell' = true := fun v hv => hone v (List.mem_of_mem_take hv)
 cases hC with
 | nil hz0 =>
  have hk0 : k = 0 := by simp at hik; omega
  subst hk0
  have hcs0 : cs = [] := List.eq_nil_of_length_eq_zero (by rw [hcl]; simp)
  have hi0' : i = 0 := by simpa using hik
  subst hi0'
  have hrun := run_copyN (P := P) (w := w) (dT := t) (sT := tx) (ty := ty) (b := 0) (o := 0) (dLen := 0) (dCap := c) (d := d) (a := sa) (sLen := new.length) (sCap := sc) (cs := []) (PT.slice ht) hinfo (by simp) (fun p hp j v hj => by simp at hj) (fun _ => rfl) (fun h => absurd rfl h) (fun j hj => by simp at hj) (fun j hj => by simp at hj) (fun v hv => by cases hv)
  simp only [Nat.min_zero] at hK
  have hR' := hR.setSlot (i := dst) hd (x := aI ((0 : Nat) : Int)) (v := .int .i64 0) (.d (.val (ok_len (n := 0) (by simp [maxLen]))))
  unfold Oper.wp
  simp only [execOp, resolve, invoke, builtin, Sem.run_bind, Sem.run_pure, Result.andThen_ok, Oper.upon]
  simp [hdv, hsv, hrun, Result.andThen, goInt, World.setCells]
  refine hK _ _ m (hR'.weaken (by simp only [ASt.n_app]) (fun j => .inr ?_) (fun j c hj => ?_) (fun j hj => (hU' j hj).1))
  ·rw [ASt.get_app, ASt.get_app]
  ·rw [ASt.chunk_app] at hj ⊢
   simp only [getL_cons] at hj
   simp only [getL] at hj ⊢
   split at hj
   ·rename_i c0 hc0
    split at hc0
    ·rename_i e1
     subst e1
     simp only [Option.some.injEq] at hc0
     subst hc0
     simpa using hc'.trans (by simpa using hj)
    ·cases hc0
   ·exact hj
 | arr hb hf hsz hl hm h0 hrow hel =>
  rename_i b cap arr fz
  have hin : (i + min new.length k) * sz ≤ arr.size := by rw [hsz]; exact Nat.mul_le_mul_right _ (by have := Nat.min_le_right new.length k; omega)
  rw [Nat.add_mul] at hin
  have hrun := run_copyN (P := P) (w := w) (dT := t) (sT := tx) (ty := ty) (b := b) (o := i * sz) (dLen := k) (dCap := c) (d := d) (a := sa) (sLen := new.length) (sCap := sc) (cs := cs) (PT.slice ht) hinfo hcl (fun p hp j v hj => hsrc p hp j v (hcs j v hj)) (fun h => by
    have := hnone h
    show vs.take _ = []
    rw [this]; simp) (fun h => by
    have hk0 : 0 < k := by
     rcases Nat.eq_zero_or_pos k with h2 | h2
     ·exfalso; exact h (List.eq_nil_of_length_eq_zero (by rw [hcl, h2]; simp))
     ·exact h2
    obtain ⟨b', hb', hd'⟩ := hdp hk0
    simp only [Option.some.injEq] at hb'
    rw [hd', hb']) (fun j hj => by rw [cell_getD hb (by omega)]; rfl) (fun j hj => by
    have := hf (i * sz + j) (by omega)
    simp only [World.frozen?, hb]
    simpa using this) h1
  have hg : ∀ q, (setSeg arr (i * sz) cs).getD q undef = if i * sz ≤ q ∧ q < i * sz + min new.length k * sz then cs.getD (q - i * sz) undef else arr.getD q undef := by
   intro q
   rw [setSeg_get _ _ _ (by omega) q, hcl]
  have hcg : ∀ q, q < min new.length k * sz → cs.getD q undef = vs.getD q undef := by
   intro q hq
   have h2 : q < cs.length := by omega
   have h3 := hcs q cs[q] (List.getElem?_eq_getElem h2)
   rw [List.getD_eq_getElem?_getD, List.getD_eq_getElem?_getD, h3, List.getElem?_eq_getElem h2]
  have hlen : (els.take i ++ new.take (min new.length k) ++ els.drop (i + min new.length k)).length = els.length := by
   have := Nat.min_le_right new.length k
   have := Nat.min_le_left new.length k
   simp; omega
  have hat : ∀ (q : Nat) (row : List DV), (els.take i ++ new.take (min new.length k) ++ els.drop (i + min new.length k))[q]? = some row → (i ≤ q ∧ q < i + min new.length k ∧ new[q - i]? = some row) ∨ ((q < i ∨ i + min new.length k ≤ q) ∧ els[q]? = some row) := by
   intro q row hq
   have hmk := Nat.min_le_right new.length k
   have hmn := Nat.min_le_left new.length k
   rcases Nat.lt_or_ge q i with h2 | h2
   ·right
    rw [List.append_assoc, List.getElem?_append_left (by simp; omega), List.getElem?_take, if_pos h2] at hq
    exact ⟨.inl h2, hq⟩
   ·rcases Nat.lt_or_ge q (i + min new.length k) with h3 | h3
    ·left
     rw [List.getElem?_append_left (by simp; omega), List.getElem?_append_right (by simp; omega), List.getElem?_take, if_pos (by simp; omega)] at hq
     refine ⟨h2, h3, ?_⟩
     rw [← hq]; congr 1; simp; omega
    ·right
     rw [List.getElem?_append_right (by simp; omega), List.getElem?_drop] at hq
     refine ⟨.inr h3, ?_⟩
     rw [← hq]; congr 1; simp; omega
  have hR' := hR.turned (i := dst) (r := aI ((min new.length k : Nat) : Int)) (v := .int .i64 ((min new.length k : Nat) : Int)) (w' := w.setCells b (i * sz) cs) (c' := .arr e' sz (els.take i ++ new.take (min new.length k) ++ els.drop (i + min new.length k))) hd hc' hp (fr_setCells _ w _) (fun F' hF => ⟨.d (.val (ok_len (Nat.le_trans (Nat.min_le_right ..) hk))), .arr (heap_setCells_at _ w _ _ hb) (by rw [setSeg_size]; exact hf) (by rw [setSeg_size]; exact hsz) (by rw [hlen]; exact hl) hm h0 (fun q row hq => ?_) (fun q row j dd hq hj => ?_)⟩)
  ·unfold Oper.wp
   simp only [execOp, resolve, invoke, builtin, Sem.run_bind, Sem.run_pure, Result.andThen_ok, Oper.upon]
   simp [hdv, hsv, hrun, Result.andThen, goInt]
   exact hK _ _ m (hR'.weaken rfl (fun _ => .inr rfl) (fun _ _ h => h) (fun j hj => (hU' j hj).1))
  ·rcases hat q row hq with ⟨_, _, h2⟩ | ⟨_, h2⟩
   ·exact hrows _ _ h2
   ·exact hrow _ _ h2
  ·rw [hg]
   rcases hat q row hq with ⟨h2, h3, h4⟩ | ⟨h2, h4⟩
   ·have hj2 : j < sz := by
     have := hrows _ _ h4
     have := (List.getElem?_eq_some_iff.1 hj).1
     omega
    have e1 : q * sz = i * sz + (q - i) * sz := by rw [← Nat.add_mul]; congr 1; omega
    have e2 : (q - i + 1) * sz ≤ min new.length k * sz := Nat.mul_le_mul_right _ (by omega)
    rw [Nat.succ_mul] at e2
    rw [if_pos (by omega), show q * sz + j - i * sz = (q - i) * sz + j from by omega, hcg _ (by omega)]
    exact (hrep _ _ j dd h4 hj).turn (fun k hk _ => hF k hk)
   ·have hj2 : j < sz := by
     have := hrow _ _ h4
     have := (List.getElem?_eq_some_iff.1 hj).1
     omega
    rw [if_neg]
    ·exact (hel q row j dd h4 hj).turn (fun k hk _ => hF k hk)
    ·rintro ⟨q1, q2⟩
     rcases h2 with h2 | h2
     ·have : (q + 1) * sz ≤ i * sz := Nat.mul_le_mul_right _ h2
      rw [Nat.succ_mul] at this
      omega
     ·have : (i + min new.length k) * sz ≤ q * sz := Nat.mul_le_mul_right _ h2
      rw [Nat.add_mul] at this
      omega
end
section
variable {P : Program} [PT P] {s : ASt} {dst : Option Nat} {ty : Nat} {pos : String} {af : Array Edge} {gd : Option (Nat × Bool)} {x y : Operand} {f t : Nat}
theorem h_clear {e n bt id sz i q : Nat} {zs : List ZK} {te : TS} {els : List (List DV)} {e' : Nat} (ht : PT.ty P t = some ⟨.slice e, n, bt, zs⟩) (he : PT.ty P e = some te) (hs : te.size = sz) (hz0 : te.zero.length = te.size) (hx : s.ev x = .part id (i * sz) q) (hc : s.chunk id = some (.arr e' sz els)) (hq : 0 < q) (hik : i + q ≤ els.length) :
  NOp P [id] s ⟨dst, .call { callee := .builtin .clear, args := #[x], argTypes := #[t] }, ty, pos, af, gd⟩ f ⟨.dead, [(id, some (.arr e' sz (els.take i)))]⟩ := by
 refine ⟨fun s' hag C U U' a w m hR hU hU' hd K Q hK => ?_⟩
 have hc' : s'.chunk id = some (.arr e' sz els) := by rw [hag.2.2 id (by simp)]; exact hc
 have hxr := hR.ev x
 rw [hag.2.1 x (by simp [Op.operands, Call.operands]), hx] at hxr
 obtain ⟨p, hp, hC, hloc⟩ := hR.ch id _ hc'
 obtain ⟨i0, _, z, hi0, _, _, hsz0, _, hiz, hzc⟩ := PT.facts he
 have hinfo : i0.size = sz := by rw [hsz0]; exact hs
 have hzs : z.cells.size = sz := by rw [hzc]; simp [hz0, hs]
 generalize hvx : a.eval x = xv at hxr
 cases hC with
 | nil _ => simp at hik; omega
 | arr hb hf hsz hl hm h0 hrow hel =>
  rename_i b cap arr fz
  cases hxr with
  | part hp' hn0 =>
   rename_i cap' c' bo ad
   rw [hp] at hp'
   simp only [Option.some.injEq] at hp'
   obtain ⟨bb, hbb, rfl⟩ := hn0 hq
   have hbb2 : b = bb := by
    have h9 : (some b : Option Nat) = bo := congrArg Prod.fst hp'
    rw [hbb] at h9; simpa using h9
   subst hbb2
   have hin : (i + q) * sz ≤ arr.size := by rw [hsz]; exact Nat.mul_le_mul_right _ (by omega)
   rw [Nat.add_mul] at hin
   obtain ⟨cs, hcs⟩ : ∃ cs, cs = (Builtin.zeroCells z.cells q).toList := ⟨_, rfl⟩
   have hcl : cs.length = q * sz := by rw [hcs]; simp [Builtin.zeroCells, hzs]
   have hone : ∀ v ∈ cs, v.oneCell' = true := by
    intro v hv
    rw [hcs] at hv
    simp only [Builtin.zeroCells, Array.toList_map, List.mem_map, Array.toList_range, List.mem_range] at hv
    obtain ⟨j, hj, rfl⟩ := hv
    have hlt : j % z.cells.size < z.cells.size := Nat.mod_lt _ (by rw [hzs]; omega)
    have hv2 : z.cells[j % z.cells.size]! ∈ z.cells := by
     rw [getElem!_pos z.cells _ hlt]; exact Array.getElem_mem hlt
    have key : ∀ v, v ∈ z.cells → v.oneCell' = true := by
     intro v hv
     rw [hzc] at hv
     simp only [List.mem_toArray, List.mem_map] at hv
     obtain ⟨zz, _, rfl⟩ := hv
     cases zz <;> rfl
    exact key _ hv2
   have hst := run_storeCells_cells (P := P) b (i * sz) cs 0 w (fun j hj => by rw [Nat.add_zero, cell_getD hb (by omega)]; rfl) (fun j hj => by
    have := hf (i * sz + j) (by omega)
    simp only [World.frozen?, hb]
    simpa using this) hone
   simp only [Nat.add_zero] at hst
   have hrun : (Builtin.clear_ #[t] ty #[.slice (some ⟨b, i * sz, none⟩) q c']).run P w = .ok (.tuple #[]) (w.setCells b (i * sz) cs) := by
    obtain ⟨q', rfl⟩ : ∃ q', q = q' + 1 := ⟨q - 1, by omega⟩
    have hzv : (zeroValue e).run P w = .ok z w := by simp [zeroValue, typeInfo, hi0, hiz]
    rw [hcs] at hst
    simp [Builtin.clear_, run_underlying (PT.slice ht), hzv, hst, Result.andThen, hcs]
   have hg : ∀ r, r < i * sz → (setSeg arr (i * sz) cs).getD r undef = arr.getD r undef := by
    intro r hr
    rw [setSeg_get _ _ _ (by omega) r, if_neg (by omega)]
   have hR' := hR.turned (i := dst) (r := .dead) (v := .tuple #[]) (w' := w.setCells b (i * sz) cs) (c' := .arr e' sz (els.take i)) hd hc' hp (fr_setCells _ w _) (fun F' hF => ⟨.dead, .arr (heap_setCells_at _ w _ _ hb) (by rw [setSeg_size]; exact hf) (by rw [setSeg_size]; exact hsz) (by rw [List.length_take]; omega) hm h0 (fun r row hr => ?_) (fun r row j dd hr hj => ?_)⟩)
   ·unfold Oper.wp
    simp only [execOp, resolve, invoke, builtin, Sem.run_bind, Sem.run_pure, Result.andThen_ok, Oper.upon]
    simp [hvx, hrun, Result.andThen]
    exact hK _ _ m (hR'.weaken rfl (fun _ => .inr rfl) (fun _ _ h => h) (fun j hj => (hU' j hj).1))
   ·rw [List.getElem?_take] at hr
    split at hr
    ·exact hrow _ _ hr
    ·cases hr
   ·rw [List.getElem?_take] at hr
    split at hr
    ·rename_i h2
     have hj2 : j < sz := by
      have := hrow _ _ hr
      have := (List.getElem?_eq_some_iff.1 hj).1
      omega
     have e2 : (r + 1) * sz ≤ i * sz := Nat.mul_le_mul_right _ h2
     rw [Nat.succ_mul] at e2
     rw [hg _ (by omega)]
     exact (hel r row j dd hr hj).turn (fun k hk _ => hF k hk)
    ·cases hr
end
abbrev mvA (v : Mv) : AV := .agg [aI v.from_, aI v.by_, aI v.to_]
set_option maxHeartbeats 1000000 in
theorem ixMv_spec (l : List Mv) (hl : l.length ≤ 1000000) (g : FuncId) (ds : List DV) (hen : Enters Tryz.prog g) (p : Mv → Bool) (hp : ∀ t, t ∈ l → ASpec Tryz.prog g (mvA t :: ds.map .d) [] (Pure1 (aT (p t)))) : ASpec Tryz.prog 101 [.d (vMvs l), .clo g (ds.map .d)] [] (Pure1 (aI (findI p l))) := by
 refine ASpec.of Tryz.func101 rfl rfl fun C hC => ?_
 refine AC.seq (AC.region ?_)
 refine AL.p (by exact as1 rfl) rfl ?_
 refine AL.nil (th_n (AC.seq (AC.seq (AC.region ?_))))
 refine AL.p (by exact mv1 rfl) rfl ?_
 refine AL.p (by exact g_len_view rfl rfl (by exact List.length_map _)) rfl ?_
 refine AL.p (by exact mv1 rfl) rfl ?_
 refine AL.nil (th_n (AC.block ?_))
 refine AC.loop (ι := Nat) (fun k => ⟨19, 0, [(0, .d (vMvs l)), (1, .clo g (ds.map .d)), (6, .d (vMvs l)), (7, aI l.length), (8, aI k)], []⟩) (fun k => k ≤ l.length ∧ ∀ j (hj : j < l.length), j < k → p l[j] = false) (fun k => l.length - k) (0) ?_ (⟨Nat.zero_le _, fun j _ hj => by omega⟩) ?_
 ·refine Weak.ren _ [] hC rfl ⟨.same, ⟨_, rfl, leadsL_data _ ds⟩, ?_⟩ trivial rfl rfl rfl; repeat (first | exact True.intro | refine And.intro ?_ ?_ | exact DLead.same)
 ·intro k ⟨hk, hall⟩
  refine AC.seq (AC.region ?_)
  refine AL.p (by exact g_cmp rfl rfl rfl) rfl ?_
  refine AL.nil (th_n (AC.seq ?_))
  refine AC.condD rfl (fun h0 => ?_) (fun h0 => ?_)
  ·refine AC.skip (th_n (AC.seq (AC.block (AC.seq ?_))))
   have hk1 : k < l.length := by omega
   have hget := mvL_get hk1
   refine AC.region ?_
   refine AL.p (by exact mv1 rfl) rfl ?_
   refine AL.p (by exact as1 rfl) rfl ?_
   refine AL.nil (th_n (AC.seq (AC.region ?_)))
   refine AL.p (by exact mv6 rfl) rfl ?_
   refine AL.p (by exact mv1 rfl) rfl ?_
   refine AL.p (by exact mv1 rfl) rfl ?_
   refine AL.p (by exact g_ia_view rfl rfl rfl rfl rfl (by rfl) (by assumption)) rfl ?_
   refine AL.p (by exact g_load_refN rfl rfl rfl rfl) rfl ?_
   refine AL.q (by exact h_pure hen rfl rfl (by exact ⟨_, _, rfl, ⟨_, rfl, _, _, rfl, .same, _, _, rfl, .same, _, _, rfl, .same, rfl⟩, leadsL_data _ ds⟩) (hp l[k] (List.getElem_mem hk1)) rfl) rfl ?_
   refine AL.nil (th_n ?_)
   refine AC.condB rfl (fun h1 => ?_) (fun h1 => ?_)
   ·refine AC.seq (AC.region ?_)
    refine AL.p (by exact mv1 rfl) rfl ?_
    refine AL.p (by exact as1 rfl) rfl ?_
    refine AL.nil (th_n (AC.ret (ib_r (th_r (th_r (ib_r (th_r (bq_r ?_))))))))
    exact ret1 rfl (by rw [findI_at hk1 h1 (fun j hj => hall j (by omega) hj)])
   ·refine AC.skip (ib_n (th_n (AC.region ?_)))
    refine AL.p (by exact g_arith rfl rfl rfl (by exact wrap_i64 (by omega))) rfl ?_
    refine AL.p (by exact mv1 rfl) rfl ?_
    refine AL.nil (th_n ?_)
    exact ⟨k + 1, ⟨by omega, fun j hj hj2 => by rcases Nat.lt_succ_iff_lt_or_eq.1 hj2 with h | rfl; exact hall j hj h; exact h1⟩, by omega, Weak.ren _ [] hC rfl ⟨.same, ⟨_, rfl, leadsL_data _ ds⟩, by repeat (first | exact True.intro | refine And.intro ?_ ?_ | exact DLead.same)⟩ trivial rfl rfl rfl⟩
  ·refine AC.exit (th_e (th_e (ib_y (th_n (AC.seq (AC.region ?_))))))
   refine AL.p (by exact as1 rfl) rfl ?_
   refine AL.nil (th_n (AC.ret (bq_r ?_)))
   exact ret1 rfl (by rw [findI_none (fun j hj => hall j hj (by omega))])
theorem en_ixMv : Enters Tryz.prog 101 := enters_of Tryz.func101 rfl rfl
set_option maxHeartbeats 4000000 in
theorem delMv_spec (l : List Mv) (hl : l.length ≤ 1000000) (g : FuncId) (ds : List DV) (hen : Enters Tryz.prog g) (p : Mv → Bool) (hp : ∀ t, t ∈ l → ASpec Tryz.prog g (mvA t :: ds.map .d) [] (Pure1 (aT (p t)))) :
  ASpec Tryz.prog 109 [.own 0 l.length, .clo g (ds.map .d)] [(0, .arr 52 3 (mvL l))] (Fun1 (.own 0 (l.filter fun x => !p x).length) [(0, .arr 52 3 (mvL (l.filter fun x => !p x)))]) := by
 have hIf := ixMv_spec l hl g ds hen p hp
 have hor := findI_or p l
 obtain ⟨F, hF⟩ : ∃ F, F = findI p l := ⟨_, rfl⟩
 rw [← hF] at hIf hor
 have hFb : -1 ≤ F ∧ F ≤ 1000000 := by rcases hor with ⟨e, _⟩ | ⟨k, hk, e, _⟩ <;> omega
 clear hF
 refine ASpec.of Tryz.func109 rfl rfl fun C hC => ?_
 refine AC.seq (AC.region ?_)
 refine AL.p (by exact as1 rfl) rfl ?_
 refine AL.nil (th_n (AC.seq (AC.region ?_)))
 refine AL.p (by exact mv2 rfl) rfl ?_
 refine AL.p (by exact mv6 rfl) rfl ?_
 refine AL.q (by exact h_borrow [0] en_ixMv rfl rfl hIf (.cons (.of (.own (id := 0) rfl rfl (Nat.le_of_eq (mvL_len _).symm) (List.take_of_length_le (Nat.le_of_eq (mvL_len _))))) (.cons .clo .nil)) rfl) rfl ?_
 refine AL.p (by exact as1 rfl) rfl ?_
 refine AL.nil (th_n (AC.seq (AC.seq (AC.region ?_))))
 refine AL.p (by exact mv1 rfl) rfl ?_
 refine AL.p (by exact g_cmp rfl rfl rfl) rfl ?_
 refine AL.nil (th_n ?_)
 refine AC.condD rfl (fun h0 => ?_) (fun h0 => ?_)
 ·refine AC.seq (AC.region ?_)
  refine AL.p (by exact mv2 rfl) rfl ?_
  refine AL.p (by exact as2 rfl) rfl ?_
  refine AL.nil (th_n (AC.ret (th_r (bq_r ?_))))
  have e := filter_no (hor.elim (fun h => h.2) (fun ⟨k, _, h, _⟩ => absurd h (by omega)))
  exact retN [] rfl (by rw [e]; repeat (first | exact rfl | refine ⟨_, rfl, ?_⟩)) (by rw [e]; repeat (first | exact True.intro | refine And.intro ?_ ?_ | exact rfl | refine ⟨_, _, rfl, rfl, ?_⟩)) rfl rfl
 ·refine AC.skip (th_n (AC.seq (AC.seq ?_)))
  obtain ⟨k0, hk0, rfl, hpk, hbef⟩ := hor.resolve_left fun h => h0 h.1
  have hI0 : DelI p l k0 (k0 + 1) l := ⟨rfl, Nat.lt_succ_self _, hk0, by rw [filt_take hk0, if_pos hpk, List.append_nil]; exact (List.filter_eq_self.2 fun x hx => by obtain ⟨j, hj, rfl⟩ := List.mem_take_iff_getElem.1 hx; rw [hbef j (by omega) (by omega)]; rfl).symm, rfl⟩
  refine AC.region ?_
  refine AL.p (by exact mv1 rfl) rfl ?_
  refine AL.p (by exact g_arith rfl rfl rfl (by exact wrap_i64 (by omega))) rfl ?_
  refine AL.p (by exact as1 rfl) rfl ?_
  refine AL.nil (th_n (AC.block ?_))
  refine AC.loop (ι := Nat × Nat × List Mv) (fun x => ⟨42, 300, [(0, .own 0 l.length), (1, .clo g (ds.map .d)), (5, aI x.1), (6, aI x.2.1)], [(0, some (.arr 52 3 (mvL x.2.2)))]⟩) (fun x => DelI p l x.1 x.2.1 x.2.2) (fun x => l.length - x.2.1) ((k0, k0 + 1, l)) ?_ (hI0) ?_
  ·exact Weak.ren _ [] hC rfl ⟨⟨_, rfl, rfl⟩, ⟨_, rfl, leadsL_data _ ds⟩, by repeat (first | exact True.intro | refine And.intro ?_ ?_ | exact DLead.same)⟩ (by repeat (first | exact True.intro | refine And.intro ?_ ?_ | exact rfl | refine ⟨_, _, rfl, rfl, ?_⟩)) rfl rfl rfl
  ·rintro ⟨i, j, e⟩ hI
   dsimp only at hI ⊢
   have hlt := hI.lt
   have hle := hI.le
   have hel := hI.len
   refine AC.seq (AC.seq (AC.region ?_))
   refine AL.p (by exact mv1 rfl) rfl ?_
   refine AL.p (by exact mv2 rfl) rfl ?_
   refine AL.p (by exact g_len_own (sz := 1) (els := []) (e' := 0) rfl rfl (by simp only [maxLen]; omega)) rfl ?_
   refine AL.p (by exact g_cmp rfl rfl rfl) rfl ?_
   refine AL.nil (th_n ?_)
   refine AC.condD rfl (fun h1 => ?_) (fun h1 => ?_)
   ·refine AC.skip (th_n (AC.seq (AC.block (AC.seq ?_))))
    have hj1 : j < l.length := by omega
    have hrow : (mvL e)[j]? = some (mvD l[j]) := by rw [List.getElem?_map, hI.get hj1]; rfl
    have hG := hp l[j] (List.getElem_mem hj1)
    have hsk := hI.skip hj1
    have hmv := hI.move hj1
    obtain ⟨x, hx⟩ : ∃ x, x = l[j] := ⟨_, rfl⟩
    rw [← hx] at hrow hG hsk hmv
    obtain ⟨b, hb⟩ : ∃ b, b = p x := ⟨_, rfl⟩
    rw [← hb] at hG hsk hmv
    have hset : mvL (e.set i x) = (mvL e).set i (mvD x) := by unfold mvL; rw [List.map_set]
    refine AC.region ?_
    refine AL.p (by exact mv2 rfl) rfl ?_
    refine AL.p (by exact mv1 rfl) rfl ?_
    refine AL.p (by exact g_ia_own (i := j) (l := l.length) rfl rfl rfl rfl rfl rfl hj1 rfl) rfl ?_
    refine AL.p (by exact g_load_arrN rfl rfl rfl rfl rfl rfl hrow) rfl ?_
    refine AL.q (by exact h_alloc rfl) rfl ?_
    refine AL.q (by exact h_store rfl rfl rfl rfl rfl rfl) rfl ?_
    refine AL.nil (th_n (AC.seq (AC.region ?_)))
    refine AL.p (by exact mv6 rfl) rfl ?_
    refine AL.p (by exact g_load_ptrN rfl rfl rfl rfl rfl) rfl ?_
    refine AL.q (by exact h_pure hen rfl rfl (by exact ⟨_, _, rfl, ⟨_, rfl, _, _, rfl, .same, _, _, rfl, .same, _, _, rfl, .same, rfl⟩, leadsL_data _ ds⟩) hG rfl) rfl ?_
    refine AL.p (by exact g_not rfl) rfl ?_
    refine AL.nil (th_n ?_)
    refine AC.condB rfl (fun h2 => ?_) (fun h2 => ?_)
    ·refine AC.seq (AC.region ?_)
     refine AL.p (by exact mv2 rfl) rfl ?_
     refine AL.p (by exact mv1 rfl) rfl ?_
     refine AL.p (by exact g_load_ptrN rfl rfl rfl rfl rfl) rfl ?_
     refine AL.p (by exact g_ia_own (i := i) (l := l.length) rfl rfl rfl rfl rfl rfl (by omega) rfl) rfl ?_
     refine AL.q (by exact h_store_row (i := i) (ds := mvD x) rfl rfl rfl rfl rfl rfl rfl (by rw [mvL_len]; omega)) rfl ?_
     refine AL.nil (th_n (AC.region ?_))
     refine AL.p (by exact mv1 rfl) rfl ?_
     refine AL.p (by exact g_arith rfl rfl rfl (by exact wrap_i64 (by omega))) rfl ?_
     refine AL.p (by exact as1 rfl) rfl ?_
     refine AL.nil (ib_n (th_n (AC.region ?_)))
     refine AL.p (by exact mv1 rfl) rfl ?_
     refine AL.p (by exact g_arith rfl rfl rfl (by exact wrap_i64 (by omega))) rfl ?_
     refine AL.p (by exact as1 rfl) rfl ?_
     refine AL.nil (th_n ?_)
     (have e2 := hmv (by simpa using ‹(!b) = true›); exact ⟨(i + 1, j + 1, e.set i x), e2, by dsimp only; omega, Weak.ren _ [] hC rfl ⟨⟨_, rfl, rfl⟩, ⟨_, rfl, leadsL_data _ ds⟩, by repeat (first | exact True.intro | refine And.intro ?_ ?_ | exact DLead.same)⟩ (by rw [hset]; repeat (first | exact True.intro | refine And.intro ?_ ?_ | exact rfl | refine ⟨_, _, rfl, rfl, ?_⟩)) rfl rfl rfl⟩)
    ·refine AC.skip (ib_n (th_n (AC.region ?_)))
     refine AL.p (by exact mv1 rfl) rfl ?_
     refine AL.p (by exact g_arith rfl rfl rfl (by exact wrap_i64 (by omega))) rfl ?_
     refine AL.p (by exact as1 rfl) rfl ?_
     refine AL.nil (th_n ?_)
     (have e2 := hsk (by simpa using ‹(!b) = false›); exact ⟨(i, j + 1, e), e2, by dsimp only; omega, Weak.ren _ [] hC rfl ⟨⟨_, rfl, rfl⟩, ⟨_, rfl, leadsL_data _ ds⟩, by repeat (first | exact True.intro | refine And.intro ?_ ?_ | exact DLead.same)⟩ (by repeat (first | exact True.intro | refine And.intro ?_ ?_ | exact rfl | refine ⟨_, _, rfl, rfl, ?_⟩)) rfl rfl rfl⟩)
   ·refine AC.exit (th_e (th_e (ib_y (th_n (AC.seq ?_)))))
    have hjj : j = l.length := by omega
    subst hjj
    have hkept := hI.kept
    rw [List.take_length] at hkept
    have hfl : (l.filter fun x => !p x).length = i := by rw [← hkept, List.length_take]; omega
    have hst : (mvL e).take i = mvL (l.filter fun x => !p x) := by rw [← hkept]; unfold mvL; rw [List.map_take]
    refine AC.region ?_
    refine AL.p (by exact mv2 rfl) rfl ?_
    refine AL.p (by exact mv1 rfl) rfl ?_
    refine AL.p (by exact g_slice_part (els := mvL e) (e' := 52) (sz := 3) (l := i) (h := l.length) rfl rfl rfl rfl rfl (.some rfl rfl) .none (by omega) (by rw [mvL_len]; omega) rfl rfl) rfl ?_
    refine AL.q (by exact h_clear (i := i) (q := l.length - i) (els := mvL e) (e' := 52) (sz := 3) rfl rfl rfl rfl rfl rfl (by omega) (by rw [mvL_len]; omega)) rfl ?_
    refine AL.nil (th_n (AC.seq (AC.region ?_)))
    refine AL.p (by exact mv2 rfl) rfl ?_
    refine AL.p (by exact mv1 rfl) rfl ?_
    refine AL.p (by exact g_slice_own (els := (mvL e).take i) (e' := 52) (sz := 3) rfl rfl rfl rfl (.some rfl rfl) (by rw [List.length_take, mvL_len]; omega)) rfl ?_
    refine AL.p (by exact as2 rfl) rfl ?_
    refine AL.nil (th_n (AC.ret (bq_r ?_)))
    exact retN [] rfl (by rw [hfl]; repeat (first | exact rfl | refine ⟨_, rfl, ?_⟩)) (by rw [← hst]; repeat (first | exact True.intro | refine And.intro ?_ ?_ | exact rfl | refine ⟨_, _, rfl, rfl, ?_⟩)) rfl rfl
theorem en_delMv : Enters Tryz.prog 109 := enters_of Tryz.func109 rfl rfl
theorem cloneMv_spec (l : List Mv) (hl : l.length ≤ 1000000) : ASpec Tryz.prog 110 [.d (vMvs l)] [] (Fun1 (.own 0 l.length) [(0, .arr 52 3 (mvL l))]) := by
 refine ASpec.of Tryz.func110 rfl rfl fun C hC => ?_
 refine AC.seq (AC.region ?_)
 refine AL.p (by exact as1 rfl) rfl ?_
 refine AL.nil (th_n (AC.seq (AC.seq (AC.region ?_))))
 refine AL.p (by exact mv1 rfl) rfl ?_
 refine AL.eqNil (ht := rfl) (hx := rfl) rfl (fun b hb => ?_)
 refine AL.nil (th_n ?_)
 refine AC.condB rfl (fun h0 => ?_) (fun h0 => ?_)
 ·refine AC.seq (AC.region ?_)
  refine AL.p (by exact as1 rfl) rfl ?_
  refine AL.nil (th_n ?_)
  have e : l = [] := by have := hb h0; simpa [mvL] using this
  subst e
  refine AC.weak (Weak.nilOwn (i := 2) (e := 52) (sz := 3) rfl (by decide)) ?_
  refine AC.ret (th_r (bq_r ?_))
  exact retN [(0, _)] rfl (by repeat (first | exact rfl | refine ⟨_, rfl, ?_⟩)) (by repeat (first | exact True.intro | refine And.intro ?_ ?_ | exact rfl | refine ⟨_, _, rfl, rfl, ?_⟩)) rfl rfl
 ·refine AC.skip (th_n (AC.seq (AC.region ?_)))
  refine AL.q (by exact h_lit rfl rfl rfl rfl rfl rfl rfl rfl) rfl ?_
  refine AL.p (by exact mv1 rfl) rfl ?_
  refine AL.q (by exact h_appendMv [] l (.own rfl rfl rfl) (.view rfl) (by simp; omega) (by simp)) rfl ?_
  refine AL.p (by exact as2 rfl) rfl ?_
  refine AL.nil (th_n (AC.ret (bq_r ?_)))
  exact retN [(0, _)] rfl (by repeat (first | exact rfl | refine ⟨_, rfl, ?_⟩)) (by repeat (first | exact True.intro | refine And.intro ?_ ?_ | exact rfl | refine ⟨_, _, rfl, rfl, ?_⟩)) rfl rfl
theorem en_cloneMv : Enters Tryz.prog 110 := enters_of Tryz.func110 rfl rfl
abbrev zMv : Mv := ⟨0, 0, 0⟩
def byF (L : List Mv) (i : Nat) : Mv := (L.find? fun v => decide (v.to_ = (i : Int))).getD zMv
def byL (x : Ex) : List Mv := zMv :: (List.range (x.marks.length - 1)).map fun i => byF x.moves (i + 1)
theorem byL_len {x : Ex} (h : 0 < x.marks.length) : (byL x).length = x.marks.length := by unfold byL; simp; omega
theorem byL_get {x : Ex} {i : Nat} (h1 : 1 ≤ i) (h2 : i < x.marks.length) : (byL x)[i]? = some (byF x.moves i) := by
 obtain ⟨j, rfl⟩ : ∃ j, i = j + 1 := ⟨i - 1, by omega⟩
 unfold byL
 rw [List.getElem?_cons_succ, List.getElem?_map, List.getElem?_range (by omega)]
 rfl
structure ByI (N : Net) (x : Ex) (k : Nat) : Prop where
 pos : 0 < x.marks.length
 inn : ∀ v, v ∈ x.moves → 0 ≤ v.from_ ∧ v.from_ < x.marks.length ∧ 0 ≤ v.to_ ∧ v.to_ < x.marks.length ∧ v.from_ ≤ k ∧ 0 ≤ v.by_ ∧ v.by_ < N.ts.length
 met : ∀ (i : Nat), 1 ≤ i → i < x.marks.length → ∃ v, x.moves.find? (fun v => decide (v.to_ = (i : Int))) = some v ∧ v.from_ < i
theorem ByI.start (N : Net) (m : List UInt8) : ByI N ⟨[m], []⟩ 0 := ⟨Nat.zero_lt_one, fun v h => by simp at h, fun i h1 h2 => by simp at h2; omega⟩
theorem ByI.known {N : Net} {x : Ex} {k : Nat} (h : ByI N x k) {t : Int} {i : Nat} (hk : k < x.marks.length) (hi : i < x.marks.length) (ht : 0 ≤ t ∧ t < N.ts.length) : ByI N ⟨x.marks, x.moves ++ [⟨k, t, i⟩]⟩ k := by
 refine ⟨h.pos, fun v hv => ?_, fun j h1 h2 => ?_⟩
 ·rcases List.mem_append.1 hv with g | g
  ·exact h.inn v g
  ·rw [List.mem_singleton.1 g]; dsimp only; omega
 ·obtain ⟨v, hv, hf⟩ := h.met j h1 h2
  exact ⟨v, by dsimp only; rw [List.find?_append, hv]; rfl, hf⟩
theorem ByI.known_by {N : Net} {x : Ex} {k : Nat} (h : ByI N x k) {t : Int} {i : Nat} : byL ⟨x.marks, x.moves ++ [⟨k, t, i⟩]⟩ = byL x := by
 unfold byL
 congr 1
 refine List.map_congr_left fun j hj => ?_
 obtain ⟨v, hv, _⟩ := h.met (j + 1) (by omega) (by have := List.mem_range.1 hj; dsimp only at this; omega)
 unfold byF
 rw [List.find?_append, hv]
 rfl
theorem ByI.none {N : Net} {x : Ex} {k : Nat} (h : ByI N x k) : x.moves.find? (fun v => decide (v.to_ = (x.marks.length : Int))) = none := by
 rw [List.find?_eq_none]
 intro v hv
 have := h.inn v hv
 simp only [decide_eq_true_eq]
 omega
theorem ByI.new {N : Net} {x : Ex} {k : Nat} (h : ByI N x k) {t : Int} {m : List UInt8} (hk : k < x.marks.length) (ht : 0 ≤ t ∧ t < N.ts.length) : ByI N ⟨x.marks ++ [m], x.moves ++ [⟨k, t, x.marks.length⟩]⟩ k := by
 refine ⟨by dsimp only; rw [List.length_append]; simp, fun v hv => ?_, fun j h1 h2 => ?_⟩
 ·dsimp only
  rw [List.length_append, List.length_singleton]
  rcases List.mem_append.1 hv with g | g
  ·have := h.inn v g; omega
  ·rw [List.mem_singleton.1 g]; dsimp only; omega
 ·dsimp only at h2 ⊢
  rw [List.length_append, List.length_singleton] at h2
  rcases Nat.lt_or_ge j x.marks.length with g | g
  ·obtain ⟨v, hv, hf⟩ := h.met j h1 g
   exact ⟨v, by rw [List.find?_append, hv]; rfl, hf⟩
  ·obtain rfl : j = x.marks.length := by omega
   refine ⟨⟨k, t, x.marks.length⟩, by rw [List.find?_append, h.none]; simp, ?_⟩
   dsimp only; omega
theorem ByI.new_by {N : Net} {x : Ex} {k : Nat} (h : ByI N x k) {t : Int} {m : List UInt8} : byL ⟨x.marks ++ [m], x.moves ++ [⟨k, t, x.marks.length⟩]⟩ = byL x ++ [⟨k, t, x.marks.length⟩] := by
 obtain ⟨n, hn⟩ : ∃ n, x.marks.length = n + 1 := ⟨x.marks.length - 1, by have := h.pos; omega⟩
 unfold byL
 dsimp only
 rw [List.length_append, List.length_singleton, hn, Nat.add_sub_cancel, Nat.add_sub_cancel, List.range_succ, List.map_append, List.cons_append]
 congr 2
 ·refine List.map_congr_left fun j hj => ?_
  obtain ⟨v, hv, _⟩ := h.met (j + 1) (by omega) (by have := List.mem_range.1 hj; omega)
  unfold byF
  rw [List.find?_append, hv]
  rfl
 ·rw [List.map_singleton]
  unfold byF
  rw [← hn, List.find?_append, h.none]
  simp
theorem ByI.up {N : Net} {x : Ex} {k : Nat} (h : ByI N x k) : ByI N x (k + 1) := ⟨h.pos, fun v hv => by have := h.inn v hv; omega, h.met⟩
theorem exIn_By {N : Net} {k : Nat} {m : List UInt8} : ∀ (L : List Int) {x : Ex}, (∀ t, t ∈ L → 0 ≤ t ∧ t < N.ts.length) → k < x.marks.length → ByI N x k → ByI N (exIn N k m L x).1 k ∧ k < (exIn N k m L x).1.marks.length
 | [], x, _, hk, h => ⟨h, hk⟩
 | t :: ts, x, hL, hk, h => by
  have ht := hL t (List.mem_cons_self ..)
  have hT : ∀ u, u ∈ ts → 0 ≤ u ∧ u < N.ts.length := fun u hu => hL u (List.mem_cons_of_mem _ hu)
  rw [exIn]
  split
  ·split
   ·rename_i i he
    exact exIn_By ts hT hk (h.known hk (posL_lt he) ht)
   ·split
    ·exact ⟨h, hk⟩
    ·exact exIn_By ts hT (by dsimp only; rw [List.length_append]; omega) (h.new hk ht)
  ·exact ⟨h, hk⟩
theorem readyL_in (N : Net) (m : List UInt8) (n : Nat) (t : Int) (ht : t ∈ readyL N m n) : 0 ≤ t ∧ t < N.ts.length := by
 unfold readyL at ht
 obtain ⟨k, hk, rfl⟩ := List.mem_map.1 ht
 have h := (List.mem_filter.1 hk).2
 cases e : N.ts[k]? with
 | none => rw [e] at h; cases h
 | some u =>
  have := (List.getElem?_eq_some_iff.1 e).1
  omega
theorem exOut_By {N : Net} : ∀ (n k : Nat) {x : Ex}, ByI N x k → ∃ k', ByI N (exOut N n k x).1 k'
 | 0, k, x, h => ⟨k, h⟩
 | n + 1, k, x, h => by
  rw [exOut]
  split
  ·rename_i hk
   have h1 := exIn_By (m := mkAt x k) (readyL N (mkAt x k) N.ts.length) (readyL_in _ _ _) hk h
   split
   ·rename_i y e
    rw [e] at h1
    exact exOut_By n (k + 1) h1.1.up
   ·exact ⟨k, h1.1⟩
  ·exact ⟨k, h⟩
theorem explR_By (N : Net) (m : List UInt8) : ∃ k', ByI N (explR N m).1 k' := exOut_By 301 0 (ByI.start N m)
def upL (L : List Mv) : Nat → Nat → List Int
 | 0, _ => []
 | n + 1, k => if k = 0 then [] else (byF L k).by_ :: upL L n (byF L k).from_.toNat
theorem snoc_ind {α : Type} {p : List α → Prop} (h0 : p []) (h1 : ∀ l a, p l → p (l ++ [a])) (l : List α) : p l := by
 have : ∀ n, n ≤ l.length → p (l.take n) := by
  intro n
  induction n with
  | zero => intro _; simpa using h0
  | succ n ih =>
   intro hn
   rw [List.take_add_one, List.getElem?_eq_getElem (by omega)]
   exact h1 _ _ (ih (by omega))
 have := this l.length (Nat.le_refl _)
 rwa [List.take_length] at this
theorem nodup_snoc {α : Type} {l : List α} {a : α} : (l ++ [a]).Nodup ↔ l.Nodup ∧ a ∉ l := by
 rw [List.nodup_append]
 simp only [List.nodup_cons, List.not_mem_nil, not_false_eq_true, List.nodup_nil, and_self, true_and, List.mem_singleton]
 constructor
 ·rintro ⟨h1, h2⟩
  exact ⟨h1, fun h => h2 a h a rfl rfl⟩
 ·rintro ⟨h1, h2⟩
  exact ⟨h1, fun x hx y hy e => h2 (by rw [← hy, ← e]; exact hx)⟩
theorem posL_none {m : List UInt8} : ∀ {l : List (List UInt8)}, posL m l = none ↔ m ∉ l
 | [] => by simp [posL]
 | a :: l => by
  rw [posL]
  split
  ·rename_i e; simp [e]
  ·rename_i e
   have := posL_none (m := m) (l := l)
   cases hp : posL m l with
   | none => simp only [Option.map_none, true_iff]; rw [List.mem_cons]; exact fun h => h.elim e (this.1 hp)
   | some i => simp only [Option.map_some, reduceCtorEq, false_iff]; intro h; exact absurd (this.2 fun q => h (List.mem_cons_of_mem _ q)) (by rw [hp]; simp)
theorem posL_get {m : List UInt8} : ∀ {l : List (List UInt8)} {i : Nat}, posL m l = some i → l[i]? = some m
 | [], i, h => by cases h
 | a :: l, i, h => by
  rw [posL] at h
  split at h
  ·rename_i e; cases h; rw [e]; rfl
  ·cases hp : posL m l with
   | none => rw [hp] at h; cases h
   | some j => rw [hp] at h; cases h; have := posL_get hp; simpa using this
theorem posL_nodup {l : List (List UInt8)} {i : Nat} (hn : l.Nodup) (hi : i < l.length) : posL l[i] l = some i := by
 cases hp : posL l[i] l with
 | none => exact absurd (List.getElem_mem hi) (posL_none.1 hp)
 | some j =>
  have h1 := posL_get hp
  have h2 := posL_lt hp
  rw [List.getElem?_eq_getElem h2] at h1
  rw [(List.getElem_inj hn).1 (Option.some.inj h1)]
def mvIn (n : Nat) (v : Mv) : Bool := ((decide (0 ≤ v.from_) && decide (v.from_ ≤ (n : Int) - 1)) && (decide (0 ≤ v.to_) && decide (v.to_ ≤ (n : Int) - 1))) && (decide (0 ≤ v.by_) && decide (v.by_ ≤ 23))
theorem mvIn_iff {n : Nat} {v : Mv} : mvIn n v = true ↔ (0 ≤ v.from_ ∧ v.from_ < n) ∧ (0 ≤ v.to_ ∧ v.to_ < n) ∧ 0 ≤ v.by_ ∧ v.by_ ≤ 23 := by
 unfold mvIn
 simp only [Bool.and_eq_true, decide_eq_true_eq]
 omega
def goodR (x : Ex) : Bool := (decide (1 ≤ x.marks.length) && decide (x.marks.length ≤ 300)) && (decide (x.moves.length ≤ 4000) && (decide x.marks.Nodup && x.moves.all (mvIn x.marks.length)))
theorem goodR_iff {x : Ex} : goodR x = true ↔ (1 ≤ x.marks.length ∧ x.marks.length ≤ 300) ∧ x.moves.length ≤ 4000 ∧ x.marks.Nodup ∧ ∀ v, v ∈ x.moves → mvIn x.marks.length v = true := by
 unfold goodR
 simp only [Bool.and_eq_true, decide_eq_true_eq, List.all_eq_true]
def seenP (l : List (List UInt8)) : List (ByteArray × Value) := l.foldl (fun es m => setM (bstr m) (.bool true) es) []
theorem seen_snoc (l : List (List UInt8)) (m : List UInt8) : seenP (l ++ [m]) = setM (bstr m) (.bool true) (seenP l) := by unfold seenP; rw [List.foldl_append]; rfl
theorem posM_set {k a : ByteArray} {v : Value} : ∀ (es : List (ByteArray × Value)), posM k (setM a v es) = none ↔ k ≠ a ∧ posM k es = none
 | [] => by
  rw [setM, posM, posM]
  split
  ·rename_i e; simp [e]
  ·rename_i e; simp [e, posM]
 | (b, u) :: es => by
  rw [setM]
  split
  ·rename_i e
   rw [posM, posM]
   split
   ·rename_i e2; simp
   ·rename_i e2
    have : k ≠ a := fun q => e2 (q.trans e)
    simp [this]
  ·rename_i e
   rw [posM, posM]
   split
   ·rename_i e2; simp
   ·rename_i e2
    simp only [Option.map_eq_none_iff]
    exact posM_set es
theorem seen_none {m : List UInt8} (l : List (List UInt8)) : posM (bstr m) (seenP l) = none ↔ m ∉ l := by
 induction l using snoc_ind with
 | h0 => simp [seenP, posM]
 | h1 l a ih =>
  rw [seen_snoc, posM_set, ih]
  simp only [List.mem_append, List.mem_singleton, not_or]
  constructor
  ·rintro ⟨h1, h2⟩; exact ⟨h2, fun e => h1 (by rw [e])⟩
  ·rintro ⟨h1, h2⟩; exact ⟨fun e => h2 (bstr_inj e), h1⟩
theorem seen_len (l : List (List UInt8)) : (seenP l).length ≤ l.length ∧ ((seenP l).length = l.length ↔ l.Nodup) := by
 induction l using snoc_ind with
 | h0 => simp [seenP]
 | h1 l a ih =>
  rw [seen_snoc, nodup_snoc, ← seen_none (m := a) l, List.length_append, List.length_singleton]
  cases hp : posM (bstr a) (seenP l) with
  | none =>
   rw [setM_none hp, List.length_append, List.length_singleton]
   refine ⟨by omega, ?_⟩
   rw [← ih.2]
   simp
  | some p =>
   obtain ⟨i, u⟩ := p
   rw [setM_some hp, List.length_set]
   refine ⟨by omega, ?_⟩
   simp only [reduceCtorEq, and_false, iff_false]
   omega
theorem seen_ok (l : List (List UInt8)) : decide ((seenP l).length = l.length) = decide l.Nodup := decide_eq_decide.2 (seen_len l).2
def Fires (N : Net) (x : Ex) (v : Mv) : Prop := ∃ f t : Nat, v.from_ = f ∧ v.to_ = t ∧ f < x.marks.length ∧ t < x.marks.length ∧ fireI N (mkAt x f) v.by_ = (mkAt x t, true)
def fromL (x : Ex) (j : Nat) : List Mv := x.moves.filter fun v => decide (v.from_ = (j : Int))
structure ClI (N : Net) (x : Ex) (k : Nat) (done : List Int) : Prop where
 nd : x.marks.Nodup
 le : ∀ v, v ∈ x.moves → 0 ≤ v.from_ ∧ v.from_ ≤ k
 ok : ∀ v, v ∈ x.moves → Fires N x v
 old : ∀ j, j < k → (fromL x j).map Mv.by_ = readyL N (mkAt x j) N.ts.length
 cur : (fromL x k).map Mv.by_ = done
theorem mkAt_push {x : Ex} {m : List UInt8} {M : List Mv} {j : Nat} (h : j < x.marks.length) : mkAt ⟨x.marks ++ [m], M⟩ j = mkAt x j := by
 unfold mkAt
 rw [List.getD_eq_getElem?_getD, List.getD_eq_getElem?_getD, List.getElem?_append_left h]
theorem mkAt_last {x : Ex} {m : List UInt8} {M : List Mv} : mkAt ⟨x.marks ++ [m], M⟩ x.marks.length = m := by
 unfold mkAt
 rw [List.getD_eq_getElem?_getD, List.getElem?_append_right (Nat.le_refl _), Nat.sub_self]; rfl
theorem fromL_push {x : Ex} {M : List (List UInt8)} {v : Mv} {j : Nat} : fromL ⟨M, x.moves ++ [v]⟩ j = fromL x j ++ (if v.from_ = (j : Int) then [v] else []) := by
 unfold fromL
 rw [List.filter_append]
 congr 1
 by_cases h : v.from_ = (j : Int) <;> simp [h]
theorem ClI.known {N : Net} {x : Ex} {k : Nat} {done : List Int} (h : ClI N x k done) (hk : k < x.marks.length) {t : Int} {i : Nat} (hf : (fireI N (mkAt x k) t).2 = true) (hp : posL (fireI N (mkAt x k) t).1 x.marks = some i) : ClI N ⟨x.marks, x.moves ++ [⟨k, t, i⟩]⟩ k (done ++ [t]) := by
 have hi := posL_lt hp
 have hg := posL_get hp
 refine ⟨h.nd, fun v hv => ?_, fun v hv => ?_, fun j hj => ?_, ?_⟩
 ·rcases List.mem_append.1 hv with g | g
  ·exact h.le v g
  ·rw [List.mem_singleton.1 g]; dsimp only; omega
 ·rcases List.mem_append.1 hv with g | g
  ·exact h.ok v g
  ·rw [List.mem_singleton.1 g]
   refine ⟨k, i, rfl, rfl, hk, hi, ?_⟩
   show fireI N (mkAt x k) t = (mkAt x i, true)
   have e : mkAt x i = (fireI N (mkAt x k) t).1 := by
    rw [mkAt_nat hi]
    rw [List.getElem?_eq_getElem hi] at hg
    exact Option.some.inj hg
   rw [e, ← hf]
 ·rw [fromL_push, if_neg (by show ¬ (k : Int) = j; omega), List.append_nil]
  exact h.old j hj
 ·rw [fromL_push, if_pos rfl, List.map_append, h.cur]; rfl
theorem ClI.new {N : Net} {x : Ex} {k : Nat} {done : List Int} (h : ClI N x k done) (hk : k < x.marks.length) {t : Int} (hf : (fireI N (mkAt x k) t).2 = true) (hp : posL (fireI N (mkAt x k) t).1 x.marks = none) : ClI N ⟨x.marks ++ [(fireI N (mkAt x k) t).1], x.moves ++ [⟨k, t, x.marks.length⟩]⟩ k (done ++ [t]) := by
 refine ⟨nodup_snoc.2 ⟨h.nd, posL_none.1 hp⟩, fun v hv => ?_, fun v hv => ?_, fun j hj => ?_, ?_⟩
 ·rcases List.mem_append.1 hv with g | g
  ·exact h.le v g
  ·rw [List.mem_singleton.1 g]; dsimp only; omega
 ·rcases List.mem_append.1 hv with g | g
  ·obtain ⟨f, u, h1, h2, h3, h4, h5⟩ := h.ok v g
   refine ⟨f, u, h1, h2, by dsimp only; rw [List.length_append]; omega, by dsimp only; rw [List.length_append]; omega, ?_⟩
   rw [mkAt_push h3, mkAt_push h4]; exact h5
  ·rw [List.mem_singleton.1 g]
   refine ⟨k, x.marks.length, rfl, rfl, by dsimp only; rw [List.length_append]; omega, by dsimp only; rw [List.length_append]; simp, ?_⟩
   rw [mkAt_push hk, mkAt_last]
   show fireI N (mkAt x k) t = _
   rw [← hf]
 ·rw [fromL_push, if_neg (by show ¬ (k : Int) = j; omega), List.append_nil, mkAt_push (by omega)]
  exact h.old j hj
 ·rw [fromL_push, if_pos rfl, List.map_append]
  show (fromL x k).map Mv.by_ ++ _ = _
  rw [h.cur]; rfl
theorem exIn_Cl {N : Net} {k : Nat} {m : List UInt8} : ∀ (L : List Int) {x y : Ex} {done : List Int}, k < x.marks.length → mkAt x k = m → ClI N x k done → exIn N k m L x = (y, none) → ClI N y k (done ++ L) ∧ mkAt y k = m ∧ k < y.marks.length
 | [], x, y, done, hk, hm, h, e => by
  rw [exIn] at e
  obtain rfl := (Prod.mk.inj e).1
  rw [List.append_nil]; exact ⟨h, hm, hk⟩
 | t :: ts, x, y, done, hk, hm, h, e => by
  rw [exIn] at e
  split at e
  ·rename_i hf
   subst hm
   split at e
   ·rename_i i he
    have := exIn_Cl ts (x := ⟨x.marks, x.moves ++ [⟨k, t, i⟩]⟩) hk rfl (h.known hk hf he) e
    rwa [List.append_assoc] at this
   ·rename_i he
    split at e
    ·exact absurd (Prod.mk.inj e).2 (by simp)
    ·have := exIn_Cl ts (x := ⟨x.marks ++ [(fireI N (mkAt x k) t).1], x.moves ++ [⟨k, t, x.marks.length⟩]⟩) (by dsimp only; rw [List.length_append]; omega) (mkAt_push hk) (h.new hk hf he) e
     rwa [List.append_assoc] at this
  ·exact absurd (Prod.mk.inj e).2 (by simp)
theorem ClI.next {N : Net} {x : Ex} {k : Nat} (h : ClI N x k (readyL N (mkAt x k) N.ts.length)) : ClI N x (k + 1) [] := by
 refine ⟨h.nd, fun v hv => by have := h.le v hv; omega, h.ok, fun j hj => ?_, ?_⟩
 ·rcases Nat.lt_or_ge j k with g | g
  ·exact h.old j g
  ·obtain rfl : j = k := by omega
   exact h.cur
 ·have : fromL x (k + 1) = [] := by
   unfold fromL
   rw [List.filter_eq_nil_iff]
   intro v hv
   have := h.le v hv
   simp only [decide_eq_true_eq]; omega
  rw [this]; rfl
theorem exIn_n300 {N : Net} {k : Nat} {m : List UInt8} : ∀ (L : List Int) {x : Ex}, x.marks.length ≤ 300 → (exIn N k m L x).1.marks.length ≤ 300
 | [], x, h => h
 | t :: ts, x, h => by
  rw [exIn]
  split
  ·split
   ·exact exIn_n300 ts h
   ·split
    ·exact h
    ·exact exIn_n300 ts (by dsimp only; rw [List.length_append, List.length_singleton]; omega)
  ·exact h
theorem exIn_st {N : Net} {k : Nat} {m : List UInt8} : ∀ (L : List Int) {x : Ex}, 0 < x.marks.length → mkAt (exIn N k m L x).1 0 = mkAt x 0 ∧ 0 < (exIn N k m L x).1.marks.length
 | [], x, h => ⟨rfl, h⟩
 | t :: ts, x, h => by
  rw [exIn]
  split
  ·split
   ·exact exIn_st ts h
   ·split
    ·exact ⟨rfl, h⟩
    ·have := exIn_st (N := N) (k := k) (m := m) ts (x := ⟨x.marks ++ [(fireI N m t).1], x.moves ++ [⟨k, t, x.marks.length⟩]⟩) (by dsimp only; rw [List.length_append]; omega)
     rw [mkAt_push h] at this
     exact this
  ·exact ⟨rfl, h⟩
theorem exOut_st (N : Net) : ∀ (n k : Nat) {x : Ex}, 0 < x.marks.length → mkAt (exOut N n k x).1 0 = mkAt x 0
 | 0, k, x, h => rfl
 | n + 1, k, x, h => by
  rw [exOut]
  split
  ·have h1 := exIn_st (N := N) (k := k) (m := mkAt x k) (readyL N (mkAt x k) N.ts.length) h
   split
   ·rename_i y e
    rw [e] at h1
    rw [exOut_st N n (k + 1) h1.2]; exact h1.1
   ·exact h1.1
  ·rfl
theorem exOut_Cl {N : Net} : ∀ (n k : Nat) {x y : Ex}, k ≤ x.marks.length → x.marks.length ≤ 300 → 301 ≤ n + k → ClI N x k [] → exOut N n k x = (y, none) → ∃ k', ClI N y k' [] ∧ y.marks.length ≤ k'
 | 0, k, x, y, hk, hx, hn, h, e => by omega
 | n + 1, k, x, y, hk, hx, hn, h, e => by
  rw [exOut] at e
  split at e
  ·rename_i hlt
   split at e
   ·rename_i z hz
    have h1 := exIn_Cl (readyL N (mkAt x k) N.ts.length) hlt rfl h hz
    rw [List.nil_append] at h1
    have h2 : ClI N z k (readyL N (mkAt z k) N.ts.length) := by rw [h1.2.1]; exact h1.1
    have h3 := exIn_n300 (N := N) (k := k) (m := mkAt x k) (readyL N (mkAt x k) N.ts.length) hx
    rw [hz] at h3
    exact exOut_Cl n (k + 1) h1.2.2 h3 (by omega) h2.next e
   ·rename_i hr
    exact absurd e (hr y)
  ·obtain rfl := (Prod.mk.inj e).1
   exact ⟨k, h, by omega⟩
structure Expl (s : Stg) (x : Ex) : Prop where
 n : 1 ≤ x.marks.length ∧ x.marks.length ≤ 300
 st : mkAt x 0 = s.start
 nd : x.marks.Nodup
 b : ∀ m, m ∈ x.marks → bitsB m s.net.places = true
 inn : ∀ v, v ∈ x.moves → 0 ≤ v.from_ ∧ v.from_ < x.marks.length ∧ 0 ≤ v.to_ ∧ v.to_ < x.marks.length ∧ 0 ≤ v.by_ ∧ v.by_ < s.net.ts.length
 ok : ∀ v, v ∈ x.moves → Fires s.net x v
 out : ∀ j, j < x.marks.length → (fromL x j).map Mv.by_ = readyL s.net (mkAt x j) s.net.ts.length
 met : ∀ (i : Nat), 1 ≤ i → i < x.marks.length → ∃ v, x.moves.find? (fun v => decide (v.to_ = (i : Int))) = some v ∧ v.from_ < i
 l : x.moves.length ≤ 300 * s.net.ts.length
theorem sum_le {f : Nat → Nat} {c : Nat} : ∀ n, (∀ j, j < n → f j ≤ c) → ((List.range n).map f).sum ≤ n * c
 | 0, _ => by simp
 | n + 1, h => by
  rw [List.range_succ, List.map_append, List.sum_append]
  have := sum_le n fun j hj => h j (by omega)
  have := h n (by omega)
  simp only [List.map_cons, List.map_nil, List.sum_cons, List.sum_nil, Nat.add_mul]
  omega
theorem froms_len {n : Nat} : ∀ (L : List Mv), (∀ v, v ∈ L → 0 ≤ v.from_ ∧ v.from_ < n) → L.length = ((List.range n).map fun j => (L.filter fun v => decide (v.from_ = ((j : Nat) : Int))).length).sum := by
 intro L
 induction L with
 | nil => intro _; have := sum_le (f := fun _ => 0) (c := 0) n (fun _ _ => Nat.le_refl _); show 0 = ((List.range n).map fun _ => 0).sum; omega
 | cons a L ih =>
  intro h
  have ha := h a (List.mem_cons_self ..)
  have ih := ih fun v hv => h v (List.mem_cons_of_mem _ hv)
  have key : ∀ (m : Nat), ((List.range m).map fun j => ((a :: L).filter fun v => decide (v.from_ = ((j : Nat) : Int))).length).sum = ((List.range m).map fun j => (L.filter fun v => decide (v.from_ = ((j : Nat) : Int))).length).sum + (if a.from_ < m then 1 else 0) := by
   intro m
   induction m with
   | zero => simp; omega
   | succ m ihm =>
    rw [List.range_succ, List.map_append, List.map_append, List.sum_append, List.sum_append, ihm, List.map_singleton, List.map_singleton, List.filter_cons]
    simp only [List.sum_cons, List.sum_nil]
    split <;> split <;> split <;> simp only [decide_eq_true_eq, List.length_cons] at * <;> omega
  rw [key n, if_pos ha.2, List.length_cons, ← ih]
theorem explS_Expl {s : Stg} (h : (explS s).2 = true) : goodS s = true ∧ Expl s (explS s).1 := by
 unfold explS at h ⊢
 split at h
 ·rename_i hc
  rw [if_pos hc]
  obtain ⟨hg, hb⟩ := Bool.and_eq_true_iff.1 hc
  have h1 : goodN s.net = true ∧ bitsB s.start s.net.places = true := by
   have hg := hg
   simp only [goodS, Bool.and_eq_true] at hg
   exact hg.1
  have hI := exOut_I (good_places h1.1).2.2 301 0 (x := ⟨[s.start], []⟩) (q := 0) ⟨by show 1 ≤ 300; omega, fun m hm => by rw [List.mem_singleton.1 hm]; exact h1.2, Nat.le_refl _⟩
  obtain ⟨k1, hB⟩ := explR_By s.net s.start
  have hr : explR s.net s.start = ((explR s.net s.start).1, none) := by
   unfold exB at hb
   split at hb
   ·cases hb
   ·rename_i e; exact Prod.ext rfl e
  have hst := exOut_st s.net 301 0 (x := ⟨[s.start], []⟩) Nat.zero_lt_one
  obtain ⟨k', hC, hk'⟩ := exOut_Cl 301 0 (x := ⟨[s.start], []⟩) (Nat.zero_le _) (by show 1 ≤ 300; omega) (Nat.le_refl _) ⟨by simp, fun v hv => by simp at hv, fun v hv => by simp at hv, fun j hj => by omega, rfl⟩ hr
  have hin : ∀ v, v ∈ (explR s.net s.start).1.moves → 0 ≤ v.from_ ∧ v.from_ < (explR s.net s.start).1.marks.length := fun v hv => by have := hB.inn v hv; omega
  have hBi := hB.inn
  have hl : (explR s.net s.start).1.moves.length ≤ 300 * s.net.ts.length := by
   rw [froms_len _ hin]
   refine Nat.le_trans (sum_le (c := s.net.ts.length) _ fun j hj => ?_) (Nat.mul_le_mul_right _ hI.n)
   have := congrArg List.length (hC.old j (by omega))
   rw [List.length_map] at this
   have h2 := readyL_len s.net (mkAt (explR s.net s.start).1 j) s.net.ts.length
   show (fromL _ j).length ≤ _
   omega
  have hpos := hB.pos
  have hold := hC.old
  have hmet := hB.met
  have hn : (explR s.net s.start).1.marks.length ≤ 300 := hI.n
  have hb2 : ∀ m, m ∈ (explR s.net s.start).1.marks → bitsB m s.net.places = true := hI.b
  have hst : mkAt (explR s.net s.start).1 0 = s.start := hst
  have hnd := hC.nd
  have hok := hC.ok
  obtain ⟨x, hx⟩ : ∃ x, x = (explR s.net s.start).1 := ⟨_, rfl⟩
  rw [← hx] at hBi hl hpos hold hmet hn hb2 hnd hok hst hk'
  show goodS s = true ∧ Expl s (explR s.net s.start).1
  rw [← hx]
  exact ⟨hg, ⟨hpos, hn⟩, hst, hnd, hb2, fun v hv => by have := hBi v hv; omega, hok, fun j hj => hold j (by omega), hmet, hl⟩
 ·exact absurd h (by simp)
theorem Expl.good {s : Stg} {x : Ex} (h : Expl s x) (ht : s.net.ts.length ≤ 13) : goodR x = true := by
 have := h.l
 refine goodR_iff.2 ⟨h.n, by have : 300 * s.net.ts.length ≤ 300 * 13 := Nat.mul_le_mul_left _ ht; omega, h.nd, fun v hv => mvIn_iff.2 ?_⟩
 have := h.inn v hv
 omega
abbrev oa (o : List Int) (v : Nat) : Int := o.getD v (-1)
theorem oa_lt {o : List Int} {v : Nat} (h : 0 ≤ oa o v) : v < o.length := by
 rcases Nat.lt_or_ge v o.length with q | q
 ·exact q
 ·unfold oa at h
  rw [List.getD_eq_getElem?_getD, List.getElem?_eq_none q] at h
  exact absurd h (by decide)
theorem oa_get {o : List Int} {v : Nat} (h : v < o.length) : oa o v = o[v] := by
 unfold oa; rw [List.getD_eq_getElem?_getD, List.getElem?_eq_getElem h]; rfl
theorem oa_set_self {o : List Int} {v : Nat} {x : Int} (h : v < o.length) : oa (o.set v x) v = x := by
 unfold oa; rw [List.getD_eq_getElem?_getD, List.getElem?_set_self h]; rfl
theorem oa_set_ne {o : List Int} {v u : Nat} {x : Int} (h : u ≠ v) : oa (o.set v x) u = oa o u := by
 unfold oa; rw [List.getD_eq_getElem?_getD, List.getD_eq_getElem?_getD, List.getElem?_set_ne (fun e => h e.symm)]
inductive Walk (E : List (Nat × Nat)) (s : Nat) : Nat → Nat → Prop
 | nil : Walk E s 0 s
 | step {k f t : Nat} : Walk E s k f → (f, t) ∈ E → Walk E s (k + 1) t
structure DistOf (E : List (Nat × Nat)) (n s : Nat) (o : List Int) : Prop where
 len : o.length = n
 st : oa o s = 0
 lo : ∀ v, -1 ≤ oa o v
 wk : ∀ (v k : Nat), oa o v = (k : Int) → Walk E s k v
 ed : ∀ f t, (f, t) ∈ E → 0 ≤ oa o f → 0 ≤ oa o t ∧ oa o t ≤ oa o f + 1
theorem DistOf.walk {E : List (Nat × Nat)} {n s : Nat} {o : List Int} (h : DistOf E n s o) : ∀ {k v : Nat}, Walk E s k v → 0 ≤ oa o v ∧ oa o v ≤ k
 | _, _, .nil => by rw [h.st]; exact ⟨Int.le_refl _, Int.le_refl _⟩
 | _, _, .step w he => by
  have h1 := h.walk w
  have h2 := h.ed _ _ he h1.1
  omega
theorem DistOf.le {E : List (Nat × Nat)} {n s : Nat} {o o' : List Int} (h : DistOf E n s o) (h' : DistOf E n s o') (v : Nat) (hv : 0 ≤ oa o v) : 0 ≤ oa o' v ∧ oa o' v ≤ oa o v := by
 have := h'.walk (h.wk v (oa o v).toNat (by omega))
 omega
theorem DistOf.uniq {E : List (Nat × Nat)} {n s : Nat} {o o' : List Int} (h : DistOf E n s o) (h' : DistOf E n s o') : o = o' := by
 refine List.ext_getElem (by rw [h.len, h'.len]) fun v h1 h2 => ?_
 rw [← oa_get h1, ← oa_get h2]
 have a := h.lo v
 have b := h'.lo v
 by_cases q : 0 ≤ oa o v
 ·have c := h.le h' v q
  have d := h'.le h v c.1
  omega
 ·by_cases q' : 0 ≤ oa o' v
  ·have d := h'.le h v q'
   omega
  ·omega
open Classical in
noncomputable def distF (E : List (Nat × Nat)) (n s : Nat) : List Int := if h : ∃ o, DistOf E n s o then Classical.choose h else []
theorem DistOf.eq {E : List (Nat × Nat)} {n s : Nat} {o : List Int} (h : DistOf E n s o) : distF E n s = o := by
 have hex : ∃ o, DistOf E n s o := ⟨o, h⟩
 unfold distF
 rw [dif_pos hex]
 exact (Classical.choose_spec hex).uniq h
theorem DistOf.self {E : List (Nat × Nat)} {n s : Nat} {o : List Int} (h : DistOf E n s o) : DistOf E n s (distF E n s) := by rw [h.eq]; exact h
def nextL (E : List (Nat × Nat)) (f : Nat) : List Nat := (E.filter fun e => decide (e.1 = f)).map (·.2)
theorem nextL_mem {E : List (Nat × Nat)} {f t : Nat} : t ∈ nextL E f ↔ (f, t) ∈ E := by
 unfold nextL
 simp only [List.mem_map, List.mem_filter, decide_eq_true_eq]
 constructor
 ·rintro ⟨⟨a, b⟩, ⟨h1, h2⟩, rfl⟩; simp only at h2; subst h2; exact h1
 ·intro h; exact ⟨(f, t), ⟨h, rfl⟩, rfl⟩
def negs (o : List Int) : Nat := o.countP fun x => decide (x < 0)
theorem negs_set : ∀ {o : List Int} {v : Nat} {x : Int}, v < o.length → oa o v < 0 → 0 ≤ x → negs (o.set v x) + 1 = negs o
 | [], v, x, h, _, _ => by simp at h
 | y :: o, 0, x, h, h1, h2 => by
  have h1 : y < 0 := h1
  unfold negs
  rw [List.set_cons_zero, List.countP_cons_of_neg (by simpa using h2), List.countP_cons_of_pos (by simpa using h1)]
 | y :: o, v + 1, x, h, h1, h2 => by
  have ih := negs_set (o := o) (v := v) (x := x) (by simpa using h) h1 h2
  unfold negs at ih ⊢
  rw [List.set_cons_succ, List.countP_cons, List.countP_cons]
  omega
theorem negs_rep (n : Nat) : negs (List.replicate n (-1)) = n := by
 unfold negs
 rw [List.countP_replicate]; simp
structure BfsI (E : List (Nat × Nat)) (n s : Nat) (o : List Int) (q : List Nat) (a j : Nat) : Prop where
 len : o.length = n
 inn : ∀ f t, (f, t) ∈ E → f < n ∧ t < n
 st : oa o s = 0
 lo : ∀ v, -1 ≤ oa o v
 wk : ∀ (v k : Nat), oa o v = (k : Int) → Walk E s k v
 cnt : negs o + q.length = n
 al : a ≤ q.length
 mem : ∀ v, v ∈ q ↔ 0 ≤ oa o v
 mono : ∀ i k (_ : i ≤ k) (hk : k < q.length), oa o (q.getD i 0) ≤ oa o (q.getD k 0)
 gap : a < q.length → ∀ v, v ∈ q → oa o v ≤ oa o (q.getD a 0) + 1
 done : ∀ i, i < a → ∀ t, (q.getD i 0, t) ∈ E → 0 ≤ oa o t ∧ oa o t ≤ oa o (q.getD i 0) + 1
 part : ∀ t, t ∈ (nextL E (q.getD a 0)).take j → 0 ≤ oa o t ∧ oa o t ≤ oa o (q.getD a 0) + 1
theorem BfsI.start {E : List (Nat × Nat)} {n s : Nat} (hs : s < n) (hE : ∀ f t, (f, t) ∈ E → f < n ∧ t < n) : BfsI E n s ((List.replicate n (-1)).set s 0) [s] 0 0 := by
 have hneg : ∀ v, oa (List.replicate n (-1)) v = -1 := fun v => by
  unfold oa
  rw [List.getD_eq_getElem?_getD, List.getElem?_replicate]
  split <;> rfl
 have hset : ∀ v, oa ((List.replicate n (-1)).set s 0) v = if v = s then 0 else -1 := fun v => by
  split
  ·rename_i h; subst h; exact oa_set_self (by simpa using hs)
  ·rename_i h; rw [oa_set_ne h, hneg]
 refine ⟨by simp, hE, by rw [hset, if_pos rfl], fun v => by rw [hset]; split <;> decide, fun v k h => ?_, ?_, by simp, fun v => ?_, fun i k hik hk => ?_, fun _ v hv => ?_, fun i hi => by omega, fun t ht => by simp at ht⟩
 ·rw [hset] at h
  split at h
  ·rename_i e; obtain rfl : k = 0 := by omega
   rw [e]; exact .nil
  ·omega
 ·have := negs_set (o := List.replicate n (-1)) (v := s) (x := 0) (by simpa using hs) (by rw [hneg]; decide) (Int.le_refl _)
  rw [negs_rep] at this
  simpa using this
 ·rw [hset, List.mem_singleton]
  split
  ·rename_i e; simp [e]
  ·rename_i e; simp [e]
 ·simp only [List.length_cons, List.length_nil] at hk
  obtain rfl : k = 0 := by omega
  obtain rfl : i = 0 := by omega
  exact Int.le_refl _
 ·rw [List.mem_singleton.1 hv]
  show _ ≤ oa _ ([s].getD 0 0) + 1
  show oa _ s ≤ oa _ s + 1
  omega
theorem getD_mem0 {q : List Nat} {a : Nat} (h : a < q.length) : q.getD a 0 ∈ q := by
 rw [List.getD_eq_getElem?_getD, List.getElem?_eq_getElem h]; exact List.getElem_mem h
theorem getD_app1 {q : List Nat} {a t : Nat} (h : a < q.length) : (q ++ [t]).getD a 0 = q.getD a 0 := by
 rw [List.getD_eq_getElem?_getD, List.getD_eq_getElem?_getD, List.getElem?_append_left h]
theorem getD_app2 {q : List Nat} {t : Nat} : (q ++ [t]).getD q.length 0 = t := by
 rw [List.getD_eq_getElem?_getD, List.getElem?_append_right (Nat.le_refl _), Nat.sub_self]; rfl
theorem mem_takeN {l : List Nat} {j t : Nat} (hj : j < l.length) (h : t ∈ l.take (j + 1)) : t ∈ l.take j ∨ t = l[j] := by
 rw [List.take_add_one, List.getElem?_eq_getElem hj] at h
 rcases List.mem_append.1 h with q | q
 ·exact .inl q
 ·exact .inr (by simpa using q)
theorem BfsI.no {E : List (Nat × Nat)} {n s : Nat} {o : List Int} {q : List Nat} {a j : Nat} (h : BfsI E n s o q a j) (ha : a < q.length) (hj : j < (nextL E (q.getD a 0)).length) (ht : 0 ≤ oa o (nextL E (q.getD a 0))[j]) : BfsI E n s o q a (j + 1) := by
 refine ⟨h.len, h.inn, h.st, h.lo, h.wk, h.cnt, h.al, h.mem, h.mono, h.gap, h.done, fun t ht' => ?_⟩
 rcases mem_takeN hj ht' with g | g
 ·exact h.part t g
 ·rw [g]; exact ⟨ht, h.gap ha _ ((h.mem _).2 ht)⟩
theorem BfsI.yes {E : List (Nat × Nat)} {n s : Nat} {o : List Int} {q : List Nat} {a j : Nat} (h : BfsI E n s o q a j) (ha : a < q.length) (hj : j < (nextL E (q.getD a 0)).length) (ht : oa o (nextL E (q.getD a 0))[j] < 0) :
  BfsI E n s (o.set (nextL E (q.getD a 0))[j] (oa o (q.getD a 0) + 1)) (q ++ [(nextL E (q.getD a 0))[j]]) a (j + 1) := by
 have hc0 := (h.mem _).1 (getD_mem0 ha)
 have hed := nextL_mem.1 (List.getElem_mem hj)
 have hmt : ∀ t, t ∈ (nextL E (q.getD a 0)).take (j + 1) → t ∈ (nextL E (q.getD a 0)).take j ∨ t = (nextL E (q.getD a 0))[j] := fun t => mem_takeN hj
 have hgap := h.gap ha
 have hpart := h.part
 have hgq : (q ++ [(nextL E (q.getD a 0))[j]]).getD a 0 = q.getD a 0 := getD_app1 ha
 have hLL : nextL E ((q ++ [(nextL E (q.getD a 0))[j]]).getD a 0) = nextL E (q.getD a 0) := by rw [hgq]
 obtain ⟨t, htt⟩ : ∃ t, t = (nextL E (q.getD a 0))[j] := ⟨_, rfl⟩
 rw [← htt] at ht hed hmt hgq hLL ⊢
 have htn : t < n := (h.inn _ _ hed).2
 have htl : t < o.length := by rw [h.len]; exact htn
 have hne : ∀ v, 0 ≤ oa o v → v ≠ t := fun v hv e => by rw [e] at hv; omega
 have hts : oa (o.set t (oa o (q.getD a 0) + 1)) t = oa o (q.getD a 0) + 1 := oa_set_self htl
 have hold : ∀ v, 0 ≤ oa o v → oa (o.set t (oa o (q.getD a 0) + 1)) v = oa o v := fun v hv => oa_set_ne (hne v hv)
 have hqo : ∀ v, v ∈ q → oa (o.set t (oa o (q.getD a 0) + 1)) v = oa o v := fun v hv => hold v ((h.mem v).1 hv)
 have hca := hqo _ (getD_mem0 ha)
 refine ⟨by rw [List.length_set]; exact h.len, h.inn, ?_, fun v => ?_, fun v k hv => ?_, ?_, by rw [List.length_append]; have := h.al; omega, fun v => ?_, fun i k hik hk => ?_, fun _ v hv => ?_, fun i hi t' ht' => ?_, fun t' ht' => ?_⟩
 ·rw [hold s (by rw [h.st]; exact Int.le_refl _)]; exact h.st
 ·by_cases e : v = t
  ·rw [e, hts]; omega
  ·rw [oa_set_ne e]; exact h.lo v
 ·by_cases e : v = t
  ·subst e
   rw [hts] at hv
   obtain ⟨k', rfl⟩ : ∃ k', k = k' + 1 := ⟨k - 1, by omega⟩
   exact .step (h.wk _ k' (by omega)) hed
  ·rw [oa_set_ne e] at hv; exact h.wk v k hv
 ·have h1 := negs_set (o := o) (v := t) (x := oa o (q.getD a 0) + 1) htl ht (by omega)
  have h2 := h.cnt
  rw [List.length_append, List.length_singleton]; omega
 ·rw [List.mem_append, List.mem_singleton]
  by_cases e : v = t
  ·rw [e, hts]
   constructor
   ·intro _; omega
   ·intro _; exact .inr rfl
  ·rw [oa_set_ne e, ← h.mem v]
   constructor
   ·rintro (g | g)
    ·exact g
    ·exact absurd g e
   ·exact .inl
 ·rw [List.length_append, List.length_singleton] at hk
  rcases Nat.lt_or_ge k q.length with g | g
  ·rw [getD_app1 (by omega), getD_app1 g, hqo _ (getD_mem0 (by omega)), hqo _ (getD_mem0 g)]
   exact h.mono i k hik g
  ·obtain rfl : k = q.length := by omega
   rw [getD_app2, hts]
   rcases Nat.lt_or_ge i q.length with g' | g'
   ·rw [getD_app1 g', hqo _ (getD_mem0 g')]
    exact hgap _ (getD_mem0 g')
   ·obtain rfl : i = q.length := by omega
    rw [getD_app2, hts]; exact Int.le_refl _
 ·rw [hgq, hca]
  rcases List.mem_append.1 hv with g | g
  ·rw [hqo v g]; exact hgap v g
  ·rw [List.mem_singleton.1 g, hts]; exact Int.le_refl _
 ·have hi2 : i < q.length := by omega
  rw [getD_app1 hi2] at ht' ⊢
  have h1 := h.done i hi t' ht'
  rw [hold t' h1.1, hqo _ (getD_mem0 hi2)]
  exact h1
 ·rw [hLL] at ht'
  rw [hgq, hca]
  rcases hmt t' ht' with g | g
  ·have h1 := hpart t' g
   rw [hold t' h1.1]; exact h1
  ·rw [g, hts]; exact ⟨by omega, Int.le_refl _⟩
theorem BfsI.next {E : List (Nat × Nat)} {n s : Nat} {o : List Int} {q : List Nat} {a j : Nat} (h : BfsI E n s o q a j) (ha : a < q.length) (hj : j = (nextL E (q.getD a 0)).length) : BfsI E n s o q (a + 1) 0 := by
 refine ⟨h.len, h.inn, h.st, h.lo, h.wk, h.cnt, ha, h.mem, h.mono, fun ha' v hv => ?_, fun i hi t ht => ?_, fun t ht => by simp at ht⟩
 ·have h1 := h.gap ha v hv
  have h2 := h.mono a (a + 1) (by omega) ha'
  omega
 ·rcases Nat.lt_or_ge i a with g | g
  ·exact h.done i g t ht
  ·obtain rfl : i = a := by omega
   exact h.part t (by rw [hj, List.take_length]; exact nextL_mem.2 ht)
theorem BfsI.dist {E : List (Nat × Nat)} {n s : Nat} {o : List Int} {q : List Nat} (h : BfsI E n s o q q.length 0) : DistOf E n s o := by
 refine ⟨h.len, h.st, h.lo, h.wk, fun f t he hf => ?_⟩
 obtain ⟨i, hi, rfl⟩ := List.getElem_of_mem ((h.mem f).2 hf)
 have := h.done i hi t (by rw [List.getD_eq_getElem?_getD, List.getElem?_eq_getElem hi]; exact he)
 rwa [List.getD_eq_getElem?_getD, List.getElem?_eq_getElem hi] at this
structure RndI (E : List (Nat × Nat)) (n s : Nat) (o : List Int) (d j : Nat) : Prop where
 len : o.length = n
 inn : ∀ f t, (f, t) ∈ E → f < n ∧ t < n
 st : oa o s = 0
 lo : ∀ v, -1 ≤ oa o v
 hi : ∀ v, oa o v ≤ d + 1
 hi0 : j = 0 → ∀ v, oa o v ≤ d
 wk : ∀ (v k : Nat), oa o v = (k : Int) → Walk E s k v
 dn : ∀ (v : Nat) (k : Nat), oa o v = (k : Int) + 1 → ∃ f, oa o f = (k : Int)
 done : ∀ f t, (f, t) ∈ E → 0 ≤ oa o f → oa o f < d → 0 ≤ oa o t ∧ oa o t ≤ oa o f + 1
 part : ∀ f t, (f, t) ∈ E.take j → oa o f = d → 0 ≤ oa o t
theorem RndI.start {E : List (Nat × Nat)} {n s : Nat} (hs : s < n) (hE : ∀ f t, (f, t) ∈ E → f < n ∧ t < n) : RndI E n s ((List.replicate n (-1)).set s 0) 0 0 := by
 have hneg : ∀ v, oa (List.replicate n (-1)) v = -1 := fun v => by
  unfold oa
  rw [List.getD_eq_getElem?_getD, List.getElem?_replicate]
  split <;> rfl
 have hset : ∀ v, oa ((List.replicate n (-1)).set s 0) v = if v = s then 0 else -1 := fun v => by
  split
  ·rename_i h; subst h; exact oa_set_self (by simpa using hs)
  ·rename_i h; rw [oa_set_ne h, hneg]
 refine ⟨by simp, hE, by rw [hset, if_pos rfl], fun v => by rw [hset]; split <;> decide, fun v => by rw [hset]; split <;> decide, fun _ v => by rw [hset]; split <;> decide, fun v k h => ?_, fun v k h => ?_, fun f t _ h1 h2 => by omega, fun f t ht => by simp at ht⟩
 ·rw [hset] at h
  split at h
  ·rename_i e; obtain rfl : k = 0 := by omega
   rw [e]; exact .nil
  ·omega
 ·rw [hset] at h
  split at h <;> omega
theorem mem_takeE {l : List (Nat × Nat)} {j : Nat} {t : Nat × Nat} (hj : j < l.length) (h : t ∈ l.take (j + 1)) : t ∈ l.take j ∨ t = l[j] := by
 rw [List.take_add_one, List.getElem?_eq_getElem hj] at h
 rcases List.mem_append.1 h with q | q
 ·exact .inl q
 ·exact .inr (by simpa using q)
theorem RndI.no {E : List (Nat × Nat)} {n s : Nat} {o : List Int} {d j : Nat} (h : RndI E n s o d j) (hj : j < E.length) (ht : ¬ (oa o E[j].1 = d ∧ oa o E[j].2 < 0)) : RndI E n s o d (j + 1) := by
 refine ⟨h.len, h.inn, h.st, h.lo, h.hi, fun e => by omega, h.wk, h.dn, h.done, fun f t hft hf => ?_⟩
 rcases mem_takeE hj hft with g | g
 ·exact h.part f t g hf
 ·rw [← g] at ht
  rcases Int.lt_or_le (oa o t) 0 with c | c
  ·exact absurd ⟨hf, c⟩ ht
  ·exact c
theorem RndI.yes {E : List (Nat × Nat)} {n s : Nat} {o : List Int} {d j : Nat} (h : RndI E n s o d j) (hj : j < E.length) (hf : oa o E[j].1 = d) (ht : oa o E[j].2 < 0) : RndI E n s (o.set E[j].2 (d + 1)) d (j + 1) := by
 have hed : (E[j].1, E[j].2) ∈ E := List.getElem_mem hj
 have hmt := fun x => mem_takeE (t := x) hj
 obtain ⟨f0, hf0⟩ : ∃ f0, f0 = E[j].1 := ⟨_, rfl⟩
 obtain ⟨t0, ht0⟩ : ∃ t0, t0 = E[j].2 := ⟨_, rfl⟩
 have he : E[j] = (f0, t0) := by rw [hf0, ht0]
 rw [he] at hmt
 rw [← ht0] at ht hed ⊢
 rw [← hf0] at hf hed
 have htl : t0 < o.length := by rw [h.len]; exact (h.inn _ _ hed).2
 have hts : oa (o.set t0 (d + 1)) t0 = d + 1 := oa_set_self htl
 have hold : ∀ v, 0 ≤ oa o v → oa (o.set t0 (d + 1)) v = oa o v := fun v hv => oa_set_ne (fun e => by rw [e] at hv; omega)
 have hback : ∀ v, oa (o.set t0 ((d : Int) + 1)) v = oa o v ∨ (v = t0 ∧ oa (o.set t0 ((d : Int) + 1)) v = d + 1) := fun v => by
  by_cases e : v = t0
  ·right; exact ⟨e, by rw [e]; exact hts⟩
  ·left; exact oa_set_ne e
 refine ⟨by rw [List.length_set]; exact h.len, h.inn, by rw [hold s (by rw [h.st]; exact Int.le_refl _)]; exact h.st, fun v => ?_, fun v => ?_, fun e => by omega, fun v k hv => ?_, fun v k hv => ?_, fun f t hft h1 h2 => ?_, fun f t hft h1 => ?_⟩
 ·rcases hback v with g | ⟨_, g⟩
  ·rw [g]; exact h.lo v
  ·rw [g]; omega
 ·rcases hback v with g | ⟨_, g⟩
  ·rw [g]; exact h.hi v
  ·rw [g]; exact Int.le_refl _
 ·rcases hback v with g | ⟨g1, g⟩
  ·rw [g] at hv; exact h.wk v k hv
  ·rw [g] at hv
   obtain rfl : k = d + 1 := by omega
   rw [g1]; exact .step (h.wk f0 d hf) hed
 ·rcases hback v with g | ⟨g1, g⟩
  ·rw [g] at hv
   obtain ⟨f, hf'⟩ := h.dn v k hv
   exact ⟨f, by rw [hold f (by omega)]; exact hf'⟩
  ·rw [g] at hv
   obtain rfl : k = d := by omega
   exact ⟨f0, by rw [hold f0 (by omega)]; exact hf⟩
 ·rcases hback f with g | ⟨g1, g⟩
  ·rw [g] at h1 h2 ⊢
   have h3 := h.done f t hft h1 h2
   rw [hold t h3.1]; exact h3
  ·rw [g] at h2; omega
 ·rcases hback f with g | ⟨g1, g⟩
  ·rw [g] at h1
   rcases hmt _ hft with c | c
   ·have h3 := h.part f t c h1
    rw [hold t h3]; exact h3
   ·obtain ⟨rfl, rfl⟩ := Prod.mk.inj c
    rw [hts]; omega
  ·rw [g] at h1; omega
theorem RndI.next {E : List (Nat × Nat)} {n s : Nat} {o : List Int} {d j : Nat} (h : RndI E n s o d j) (hj : j = E.length) : RndI E n s o (d + 1) 0 := by
 refine ⟨h.len, h.inn, h.st, h.lo, fun v => by have := h.hi v; omega, fun _ v => by have := h.hi v; omega, h.wk, h.dn, fun f t hft h1 h2 => ?_, fun f t ht => by simp at ht⟩
 rcases Int.lt_or_le (oa o f) d with g | g
 ·exact h.done f t hft h1 g
 ·have e : oa o f = d := by omega
  have := h.part f t (by rw [hj, List.take_length]; exact hft) e
  have := h.hi t
  omega
theorem down_all {o : List Int} (hdn : ∀ (v : Nat) (k : Nat), oa o v = (k : Int) + 1 → ∃ f, oa o f = (k : Int)) : ∀ (k : Nat), (∃ v, oa o v = (k : Int)) → ∀ i, i ≤ k → ∃ v, oa o v = (i : Int)
  | 0, h, i, hi => by obtain rfl : i = 0 := by omega
                      exact h
  | k + 1, ⟨v, hv⟩, i, hi => by
    rcases Nat.lt_or_ge i (k + 1) with g | g
    · exact down_all hdn k (hdn v k (by omega)) i (by omega)
    · obtain rfl : i = k + 1 := by omega
      exact ⟨v, hv⟩
theorem few_all : ∀ (k : Nat) (o : List Int), (∀ i, i < k → ((i : Nat) : Int) ∈ o) → k ≤ o.length
 | 0, o, _ => Nat.zero_le _
 | k + 1, o, h => by
  have h1 := h k (by omega)
  have ih := few_all k (o.erase (k : Int)) (fun i hi => (List.mem_erase_of_ne (by omega)).2 (h i (by omega)))
  have h2 := List.length_erase_of_mem h1
  have := List.length_pos_of_mem h1
  omega
theorem RndI.dist {E : List (Nat × Nat)} {n s : Nat} {o : List Int} (h : RndI E n s o n 0) : DistOf E n s o := by
 refine ⟨h.len, h.st, h.lo, h.wk, fun f t he hf => h.done f t he hf ?_⟩
 have hall := down_all h.dn (oa o f).toNat ⟨f, by omega⟩
 have := few_all ((oa o f).toNat + 1) o (fun i hi => by
  obtain ⟨v, hv⟩ := hall i (by omega)
  have hl := oa_lt (o := o) (v := v) (by omega)
  rw [oa_get hl] at hv
  rw [← hv]; exact List.getElem_mem hl)
 rw [h.len] at this
 omega
def backI (E : List (Nat × Nat)) (o : List Int) : Nat → Nat → List Nat
 | 0, _ => []
 | n + 1, v => E.findIdx (fun e => decide (e.2 = v ∧ oa o e.1 = oa o v - 1)) :: backI E o n (E.getD (E.findIdx (fun e => decide (e.2 = v ∧ oa o e.1 = oa o v - 1))) (0, 0)).1
theorem backI_len (E : List (Nat × Nat)) (o : List Int) : ∀ (n v : Nat), (backI E o n v).length = n
 | 0, v => rfl
 | n + 1, v => by rw [backI, List.length_cons, backI_len]
theorem back_find {E : List (Nat × Nat)} {n s v d : Nat} {o : List Int} (h : DistOf E n s o) (hv : oa o v = (d : Int) + 1) :
  ∃ i, ∃ hi : i < E.length, E.findIdx (fun e => decide (e.2 = v ∧ oa o e.1 = oa o v - 1)) = i ∧ E[i].2 = v ∧ oa o E[i].1 = d ∧ ∀ j (hj : j < E.length), j < i → ¬ (E[j].2 = v ∧ oa o E[j].1 = oa o v - 1) := by
 have hw := h.wk v (d + 1) (by omega)
 obtain ⟨f, hf, he⟩ : ∃ f, Walk E s d f ∧ (f, v) ∈ E := by cases hw with | step w e => exact ⟨_, w, e⟩
 have h1 := h.walk hf
 have h2 := h.ed f v he h1.1
 have hlt : E.findIdx (fun e => decide (e.2 = v ∧ oa o e.1 = oa o v - 1)) < E.length := List.findIdx_lt_length.2 ⟨(f, v), he, by simp only [decide_eq_true_eq]; exact ⟨trivial, by omega⟩⟩
 have hg := List.findIdx_getElem (w := hlt)
 simp only [decide_eq_true_eq] at hg
 refine ⟨_, hlt, rfl, hg.1, by omega, fun j hj hji => ?_⟩
 have := List.not_of_lt_findIdx hji
 simpa using this
theorem back_step {E : List (Nat × Nat)} {n s v d : Nat} {o : List Int} (h : DistOf E n s o) (hv : oa o v = (d : Int) + 1) :
  ∃ i, ∃ hi : i < E.length, backI E o (d + 1) v = i :: backI E o d E[i].1 ∧ E[i].2 = v ∧ oa o E[i].1 = d := by
 obtain ⟨i, hi, e, h1, h2, _⟩ := back_find h hv
 refine ⟨i, hi, ?_, h1, h2⟩
 rw [backI, e, List.getD_eq_getElem?_getD, List.getElem?_eq_getElem hi]; rfl
def edgesR (x : Ex) : List (Nat × Nat) := x.moves.map fun v => (v.from_.toNat, v.to_.toNat)
theorem edgesR_len (x : Ex) : (edgesR x).length = x.moves.length := List.length_map _
theorem edgesR_get {x : Ex} {i : Nat} (h : i < x.moves.length) : (edgesR x)[i]'(by rw [edgesR_len]; exact h) = (x.moves[i].from_.toNat, x.moves[i].to_.toNat) := by unfold edgesR; rw [List.getElem_map]
theorem edgesR_in {x : Ex} (h : ∀ v, v ∈ x.moves → (0 ≤ v.from_ ∧ v.from_ < x.marks.length) ∧ 0 ≤ v.to_ ∧ v.to_ < x.marks.length) : ∀ f t, (f, t) ∈ edgesR x → f < x.marks.length ∧ t < x.marks.length := by
 intro f t he
 obtain ⟨v, hv, e⟩ := List.mem_map.1 he
 obtain ⟨rfl, rfl⟩ := Prod.mk.inj e
 have := h v hv
 omega
theorem rnd_ex {E : List (Nat × Nat)} {n s : Nat} (hs : s < n) (hE : ∀ f t, (f, t) ∈ E → f < n ∧ t < n) : ∀ d, ∃ o, RndI E n s o d 0 := by
 intro d
 induction d with
 | zero => exact ⟨_, RndI.start hs hE⟩
 | succ d ih =>
  obtain ⟨o, ho⟩ := ih
  have : ∀ j, j ≤ E.length → ∃ o, RndI E n s o d j := by
   intro j
   induction j with
   | zero => intro _; exact ⟨o, ho⟩
   | succ j ihj =>
    intro hj
    obtain ⟨o', h'⟩ := ihj (by omega)
    by_cases q : oa o' E[j].1 = d ∧ oa o' E[j].2 < 0
    ·exact ⟨_, h'.yes (by omega) q.1 q.2⟩
    ·exact ⟨_, h'.no (by omega) q⟩
  obtain ⟨o', h'⟩ := this E.length (Nat.le_refl _)
  exact ⟨o', h'.next rfl⟩
theorem dist_ex {E : List (Nat × Nat)} {n s : Nat} (hs : s < n) (hE : ∀ f t, (f, t) ∈ E → f < n ∧ t < n) : DistOf E n s (distF E n s) := by
 obtain ⟨o, h⟩ := rnd_ex hs hE n
 exact h.dist.self
theorem Expl.reach {s : Stg} {x : Ex} (h : Expl s x) : ∀ (v : Nat), v < x.marks.length → ∃ k, Walk (edgesR x) 0 k v := by
 intro v
 induction v using Nat.strongRecOn with
 | ind v ih =>
  intro hv
  rcases Nat.eq_zero_or_pos v with rfl | hp
  ·exact ⟨0, .nil⟩
  ·obtain ⟨u, hu, hf⟩ := h.met v hp hv
   have hm := List.mem_of_find?_eq_some hu
   have ht := List.find?_some hu
   simp only [decide_eq_true_eq] at ht
   have hin := h.inn u hm
   obtain ⟨k, hk⟩ := ih u.from_.toNat (by omega) (by omega)
   refine ⟨k + 1, .step hk ?_⟩
   refine List.mem_map.2 ⟨u, hm, ?_⟩
   rw [ht]; rfl
theorem Expl.edges {s : Stg} {x : Ex} (h : Expl s x) : ∀ f t, (f, t) ∈ edgesR x → f < x.marks.length ∧ t < x.marks.length := edgesR_in fun v hv => by have := h.inn v hv; omega
theorem Expl.dist {s : Stg} {x : Ex} (h : Expl s x) : DistOf (edgesR x) x.marks.length 0 (distF (edgesR x) x.marks.length 0) := dist_ex (by have := h.n; omega) h.edges
theorem Expl.far {s : Stg} {x : Ex} (h : Expl s x) {v : Nat} (hv : v < x.marks.length) : 0 ≤ oa (distF (edgesR x) x.marks.length 0) v := by
 obtain ⟨k, hk⟩ := h.reach v hv
 exact (h.dist.walk hk).1
theorem fireSeq_snoc {N : Net} : ∀ (a : List Int) {m m' : List UInt8} {c c' : Int} {t : Int}, fireSeq N m a c = (m', c', true) → (fireI N m' t).2 = true → fireSeq N m (a ++ [t]) c = ((fireI N m' t).1, c' + 1, true)
 | [], m, m', c, c', t, h, hf => by
  obtain ⟨rfl, h2⟩ := Prod.mk.inj h
  obtain ⟨rfl, _⟩ := Prod.mk.inj h2
  rw [List.nil_append, fireSeq, if_pos hf]; rfl
 | u :: a, m, m', c, c', t, h, hf => by
  rw [List.cons_append, fireSeq]
  rw [fireSeq] at h
  split at h
  ·rename_i hu; rw [if_pos hu]; exact fireSeq_snoc a h hf
  ·exact absurd (Prod.mk.inj (Prod.mk.inj h).2).2 (by simp)
def mvAt (x : Ex) (i : Nat) : Mv := x.moves.getD i zMv
theorem mvAt_nat {x : Ex} {i : Nat} (h : i < x.moves.length) : mvAt x i = x.moves[i] := by unfold mvAt; rw [List.getD_eq_getElem?_getD, List.getElem?_eq_getElem h]; rfl
theorem fire_way {s : Stg} {x : Ex} (h : Expl s x) : ∀ (d v : Nat), oa (distF (edgesR x) x.marks.length 0) v = (d : Int) →
  fireSeq s.net s.start ((backI (edgesR x) (distF (edgesR x) x.marks.length 0) d v).reverse.map fun i => (mvAt x i).by_) 0 = (mkAt x v, (d : Int), true)
 | 0, v, hv => by
  have hw := h.dist.wk v 0 hv
  cases hw
  rw [h.st]; rfl
 | d + 1, v, hv => by
  obtain ⟨i, hi, e, h1, h2⟩ := back_step h.dist (v := v) (d := d) (by omega)
  have hi' : i < x.moves.length := by rw [← edgesR_len]; exact hi
  have ih := fire_way h d _ h2
  have hg := edgesR_get hi'
  rw [hg] at h1 h2 ih e
  have hin := h.inn _ (List.getElem_mem hi')
  obtain ⟨f, t, q1, q2, q3, q4, q5⟩ := h.ok _ (List.getElem_mem hi')
  rw [e, List.reverse_cons, List.map_append]
  have e1 : x.moves[i].from_.toNat = f := by omega
  have e2 : v = t := by rw [q2] at h1; simpa using h1.symm
  rw [e1] at ih ⊢
  have := fireSeq_snoc (t := (mvAt x i).by_) _ ih (by rw [mvAt_nat hi', q5])
  rw [mvAt_nat hi', q5] at this
  rw [List.map_singleton, mvAt_nat hi', this, e2]
  rfl
def posI (m : List UInt8) (l : List (List UInt8)) : Int := match posL m l with | some i => (i : Int) | none => -1
theorem posL_at {m : List UInt8} : ∀ {l : List (List UInt8)} {k : Nat} (hk : k < l.length), l[k] = m → (∀ j (hj : j < l.length), j < k → ¬ l[j] = m) → posL m l = some k
 | a :: l, 0, hk, h, _ => by rw [posL, if_pos (show m = a from h.symm)]
 | a :: l, k + 1, hk, h, hb => by
  have h0 := hb 0 (by simp) (by omega)
  rw [posL, if_neg (fun e => h0 e.symm), posL_at (k := k) (by simpa using hk) (by simpa using h) (fun j hj hjk => by have := hb (j + 1) (by simpa using hj) (by omega); simpa using this)]
  rfl
theorem posL_no {m : List UInt8} {l : List (List UInt8)} (h : ∀ j (hj : j < l.length), ¬ l[j] = m) : posL m l = none := posL_none.2 fun hm => by
 obtain ⟨j, hj, e⟩ := List.getElem_of_mem hm
 exact h j hj e
theorem posI_at {m : List UInt8} {l : List (List UInt8)} {k : Nat} (hk : k < l.length) (h : l[k] = m) (hb : ∀ j (hj : j < l.length), j < k → ¬ l[j] = m) : posI m l = (k : Int) := by unfold posI; rw [posL_at hk h hb]
theorem posI_no {m : List UInt8} {l : List (List UInt8)} (h : ∀ j (hj : j < l.length), ¬ l[j] = m) : posI m l = -1 := by unfold posI; rw [posL_no h]
set_option maxHeartbeats 1000000 in
theorem l4Find_spec (l : List (List UInt8)) (m : List UInt8) (hl : l.length ≤ 1000000) : ASpec Tryz.prog 132 [.d (.view 9 1 (tsX l)), aS (bstr m)] [] (Pure1 (aI (posI m l))) := by
 refine ASpec.of Tryz.func132 rfl rfl fun C hC => ?_
 refine AC.seq (AC.region ?_)
 refine AL.p (by exact as1 rfl) rfl ?_
 refine AL.nil (th_n (AC.seq (AC.seq (AC.region ?_))))
 refine AL.p (by exact mv1 rfl) rfl ?_
 refine AL.p (by exact g_len_view (k := l.length) rfl rfl (tsX_len _)) rfl ?_
 refine AL.p (by exact mv1 rfl) rfl ?_
 refine AL.nil (th_n (AC.block ?_))
 refine AC.loop (ι := Nat) (fun k => ⟨19, 0, [(1, aS (bstr m)), (7, .d (.view 9 1 (tsX l))), (8, aI l.length), (9, aI k)], []⟩) (fun k => k ≤ l.length ∧ ∀ j (hj : j < l.length), j < k → ¬ l[j] = m) (fun k => l.length - k) (0) ?_ (⟨Nat.zero_le _, fun j _ hj => by omega⟩) ?_
 ·refine Weak.ren _ [] hC rfl ?_ ?_ rfl rfl rfl <;> repeat (first | exact True.intro | refine And.intro ?_ ?_ | exact DLead.same)
 ·intro k ⟨hk, hall⟩
  refine AC.seq (AC.region ?_)
  refine AL.p (by exact g_cmp rfl rfl rfl) rfl ?_
  refine AL.nil (th_n (AC.seq ?_))
  refine AC.condD rfl (fun h0 => ?_) (fun h0 => ?_)
  ·refine AC.skip (th_n (AC.seq (AC.block (AC.seq ?_))))
   have hk1 : k < l.length := by omega
   have hget := tsX_get hk1
   refine AC.region ?_
   refine AL.p (by exact mv1 rfl) rfl ?_
   refine AL.p (by exact g_ia_view rfl rfl rfl rfl rfl (by rfl) (by assumption)) rfl ?_
   refine AL.p (by exact g_load_ref rfl rfl rfl) rfl ?_
   refine AL.p (by exact as1 rfl) rfl ?_
   refine AL.p (by exact as1 rfl) rfl ?_
   refine AL.nil (th_n (AC.seq (AC.region ?_)))
   refine AL.p (by exact mv1 rfl) rfl ?_
   refine AL.p (by exact mv1 rfl) rfl ?_
   refine AL.p (by exact g_scmp rfl rfl rfl) rfl ?_
   refine AL.nil (th_n ?_)
   refine AC.condD rfl (fun h1 => ?_) (fun h1 => ?_)
   ·refine AC.seq (AC.region ?_)
    refine AL.p (by exact mv1 rfl) rfl ?_
    refine AL.p (by exact as1 rfl) rfl ?_
    refine AL.nil (th_n (AC.ret (ib_r (th_r (th_r (ib_r (th_r (bq_r ?_))))))))
    exact ret1 rfl (by rw [posI_at hk1 (bstr_inj (by assumption)) hall])
   ·refine AC.skip (ib_n (th_n (AC.region ?_)))
    refine AL.p (by exact g_arith rfl rfl rfl (by exact wrap_i64 (by omega))) rfl ?_
    refine AL.p (by exact mv1 rfl) rfl ?_
    refine AL.nil (th_n ?_)
    exact ⟨k + 1, ⟨by omega, fun j hj hj2 => by rcases Nat.lt_succ_iff_lt_or_eq.1 hj2 with h | rfl; exact hall j hj h; exact fun e => h1 (by rw [e])⟩, by omega, Weak.ren _ [] hC rfl (by repeat (first | exact True.intro | refine And.intro ?_ ?_ | exact DLead.same)) (by repeat (exact True.intro)) rfl rfl rfl⟩
  ·refine AC.exit (th_e (th_e (ib_y (th_n (AC.seq (AC.region ?_))))))
   refine AL.p (by exact as1 rfl) rfl ?_
   refine AL.nil (th_n (AC.ret (bq_r ?_)))
   exact ret1 rfl (by rw [posI_no (fun j hj => hall j hj (by omega))])
theorem en_l4Find : Enters Tryz.prog 132 := enters_of Tryz.func132 rfl rfl
set_option maxHeartbeats 1000000 in
theorem ixStr_spec (l : List (List UInt8)) (m : List UInt8) (hl : l.length ≤ 1000000) : ASpec Tryz.prog 104 [.d (.view 9 1 (tsX l)), aS (bstr m)] [] (Pure1 (aI (posI m l))) := by
 refine ASpec.of Tryz.func104 rfl rfl fun C hC => ?_
 refine AC.seq (AC.region ?_)
 refine AL.p (by exact as1 rfl) rfl ?_
 refine AL.nil (th_n (AC.seq (AC.seq (AC.region ?_))))
 refine AL.p (by exact mv1 rfl) rfl ?_
 refine AL.p (by exact g_len_view (k := l.length) rfl rfl (tsX_len _)) rfl ?_
 refine AL.p (by exact mv1 rfl) rfl ?_
 refine AL.nil (th_n (AC.block ?_))
 refine AC.loop (ι := Nat) (fun k => ⟨19, 0, [(0, .d (.view 9 1 (tsX l))), (1, aS (bstr m)), (7, aI l.length), (8, aI k)], []⟩) (fun k => k ≤ l.length ∧ ∀ j (hj : j < l.length), j < k → ¬ l[j] = m) (fun k => l.length - k) (0) ?_ (⟨Nat.zero_le _, fun j _ hj => by omega⟩) ?_
 ·refine Weak.ren _ [] hC rfl ?_ ?_ rfl rfl rfl <;> repeat (first | exact True.intro | refine And.intro ?_ ?_ | exact DLead.same)
 ·intro k ⟨hk, hall⟩
  refine AC.seq (AC.region ?_)
  refine AL.p (by exact g_cmp rfl rfl rfl) rfl ?_
  refine AL.nil (th_n (AC.seq ?_))
  refine AC.condD rfl (fun h0 => ?_) (fun h0 => ?_)
  ·refine AC.skip (th_n (AC.seq (AC.block (AC.seq ?_))))
   have hk1 : k < l.length := by omega
   have hget := tsX_get hk1
   refine AC.region ?_
   refine AL.p (by exact mv1 rfl) rfl ?_
   refine AL.p (by exact as1 rfl) rfl ?_
   refine AL.nil (th_n (AC.seq (AC.region ?_)))
   refine AL.p (by exact mv1 rfl) rfl ?_
   refine AL.p (by exact mv1 rfl) rfl ?_
   refine AL.p (by exact mv1 rfl) rfl ?_
   refine AL.p (by exact g_ia_view rfl rfl rfl rfl rfl (by rfl) (by assumption)) rfl ?_
   refine AL.p (by exact g_load_ref rfl rfl rfl) rfl ?_
   refine AL.p (by exact g_scmp rfl rfl rfl) rfl ?_
   refine AL.nil (th_n ?_)
   refine AC.condD rfl (fun h1 => ?_) (fun h1 => ?_)
   ·refine AC.seq (AC.region ?_)
    refine AL.p (by exact mv1 rfl) rfl ?_
    refine AL.p (by exact as1 rfl) rfl ?_
    refine AL.nil (th_n (AC.ret (ib_r (th_r (th_r (ib_r (th_r (bq_r ?_))))))))
    exact ret1 rfl (by rw [posI_at hk1 (bstr_inj (Eq.symm (by assumption))) hall])
   ·refine AC.skip (ib_n (th_n (AC.region ?_)))
    refine AL.p (by exact g_arith rfl rfl rfl (by exact wrap_i64 (by omega))) rfl ?_
    refine AL.p (by exact mv1 rfl) rfl ?_
    refine AL.nil (th_n ?_)
    exact ⟨k + 1, ⟨by omega, fun j hj hj2 => by rcases Nat.lt_succ_iff_lt_or_eq.1 hj2 with h | rfl; exact hall j hj h; exact fun e => h1 (by rw [e])⟩, by omega, Weak.ren _ [] hC rfl (by repeat (first | exact True.intro | refine And.intro ?_ ?_ | exact DLead.same)) (by repeat (exact True.intro)) rfl rfl rfl⟩
  ·refine AC.exit (th_e (th_e (ib_y (th_n (AC.seq (AC.region ?_))))))
   refine AL.p (by exact as1 rfl) rfl ?_
   refine AL.nil (th_n (AC.ret (bq_r ?_)))
   exact ret1 rfl (by rw [posI_no (fun j hj => hall j hj (by omega))])
theorem en_ixStr : Enters Tryz.prog 104 := enters_of Tryz.func104 rfl rfl
def revP (l : List Int) (i : Nat) : List Int := (l.reverse.take i) ++ ((l.drop i).take (l.length - 2 * i)) ++ l.reverse.drop (l.length - i)
theorem revP_zero (l : List Int) : revP l 0 = l := by unfold revP; simp
theorem revP_len {l : List Int} {i : Nat} (h : 2 * i ≤ l.length) : (revP l i).length = l.length := by unfold revP; simp; omega
theorem revP_get {l : List Int} {i k : Nat} (hi : 2 * i ≤ l.length) (hk : k < l.length) : (revP l i)[k]? = if k < i ∨ l.length - i ≤ k then l.reverse[k]? else l[k]? := by
 have e1 : (l.reverse.take i).length = i := by simp; omega
 have e2 : ((l.drop i).take (l.length - 2 * i)).length = l.length - 2 * i := by simp; omega
 unfold revP
 rcases Nat.lt_or_ge k i with h | h
 ·rw [if_pos (.inl h), List.append_assoc, List.getElem?_append_left (by omega), List.getElem?_take_of_lt h]
 ·rcases Nat.lt_or_ge k (l.length - i) with g | g
  ·rw [if_neg (by omega), List.append_assoc, List.getElem?_append_right (by omega), List.getElem?_append_left (by omega), List.getElem?_take_of_lt (by omega), List.getElem?_drop]
   congr 1; omega
  ·rw [if_pos (.inr g), List.getElem?_append_right (by rw [List.length_append]; omega), List.getElem?_drop]
   congr 1; rw [List.length_append]; omega
theorem revP_all {l : List Int} {i : Nat} (h : l.length ≤ 2 * i + 1) (hi : 2 * i ≤ l.length) : revP l i = l.reverse := by
 refine List.ext_getElem? fun k => ?_
 rcases Nat.lt_or_ge k l.length with hk | hk
 ·rw [revP_get hi hk]
  split
  ·rfl
  ·rw [List.getElem?_reverse hk]
   congr 1; omega
 ·rw [List.getElem?_eq_none (by rw [revP_len hi]; exact hk), List.getElem?_eq_none (by simpa using hk)]
theorem revP_step {l : List Int} {i : Nat} (h : 2 * i + 1 < l.length) : ((revP l i).set i (l[l.length - 1 - i]'(by omega))).set (l.length - 1 - i) (l[i]'(by omega)) = revP l (i + 1) := by
 refine List.ext_getElem? fun k => ?_
 rcases Nat.lt_or_ge k l.length with hk | hk
 ·rw [revP_get (by omega) hk, List.getElem?_set, List.getElem?_set, List.length_set, revP_len (by omega)]
  by_cases e1 : l.length - 1 - i = k
  ·rw [if_pos e1, if_pos (by omega), if_pos (by omega), List.getElem?_reverse hk, ← e1, List.getElem?_eq_getElem (by omega)]
   congr 2; omega
  ·rw [if_neg e1]
   by_cases e2 : i = k
   ·rw [if_pos e2, if_pos (by omega), if_pos (by omega), List.getElem?_reverse hk, ← e2, List.getElem?_eq_getElem (by omega)]
   ·rw [if_neg e2, revP_get (by omega) hk]
    by_cases g : k < i ∨ l.length - i ≤ k
    ·rw [if_pos g, if_pos (by omega)]
    ·rw [if_neg g, if_neg (by omega)]
 ·rw [List.getElem?_eq_none (by rw [List.length_set, List.length_set, revP_len (by omega)]; exact hk), List.getElem?_eq_none (by rw [revP_len (by omega)]; exact hk)]
theorem ints_set (l : List Int) (i : Nat) (x : Int) : ints (l.set i x) = (ints l).set i [dI x] := by unfold ints; rw [List.map_set]
set_option maxHeartbeats 4000000 in
theorem revInts_spec (l : List Int) (hl : l.length ≤ 1000000) : ASpec Tryz.prog 103 [.own 0 l.length] [(0, .arr 3 1 (ints l))] (Fun1 (.tup []) [(0, .arr 3 1 (ints l.reverse))]) := by
 refine ASpec.of Tryz.func103 rfl rfl fun C hC => ?_
 refine AC.seq (AC.region ?_)
 refine AL.p (by exact mv2 rfl) rfl ?_
 refine AL.p (by exact g_len_own (sz := 1) (els := []) (e' := 0) rfl rfl (by simp only [maxLen]; omega)) rfl ?_
 refine AL.p (by exact g_arith rfl rfl rfl (by exact wrap_i64 (by omega))) rfl ?_
 refine AL.p (by exact as1 rfl) rfl ?_
 refine AL.p (by exact as1 rfl) rfl ?_
 refine AL.nil (th_n (AC.block ?_))
 refine AC.loop (ι := Nat) (fun i => ⟨28, 300, [(0, .own 0 l.length), (2, aI i), (3, aI ((l.length : Int) - 1 - i))], [(0, some (.arr 3 1 (ints (revP l i))))]⟩) (fun i => 2 * i ≤ l.length) (fun i => l.length - i) (0) ?_ (by omega) ?_
 ·exact Weak.ren _ [] hC rfl (by repeat (first | exact True.intro | refine And.intro ?_ ?_ | exact DLead.same | exact DLead.eqI (by omega) | exact rfl | refine ⟨_, rfl, ?_⟩)) (by rw [revP_zero]; repeat (first | exact True.intro | refine And.intro ?_ ?_ | exact rfl | refine ⟨_, _, rfl, rfl, ?_⟩)) rfl rfl rfl
 ·intro i hi
  refine AC.seq (AC.seq (AC.region ?_))
  refine AL.p (by exact mv1 rfl) rfl ?_
  refine AL.p (by exact mv1 rfl) rfl ?_
  refine AL.p (by exact g_cmp rfl rfl rfl) rfl ?_
  refine AL.nil (th_n ?_)
  refine AC.condD rfl (fun h0 => ?_) (fun h0 => ?_)
  ·refine AC.skip (th_n (AC.seq (AC.block ?_)))
   have h2 : 2 * i + 1 < l.length := by omega
   have hrl := revP_len hi
   have hI2 : (l.length : Int) - 1 - i = ((l.length - 1 - i : Nat) : Int) := by omega
   have hgi : (ints (revP l i))[i]? = some [dI (l[i]'(by omega))] := by rw [List.getElem?_map, revP_get hi (by omega), if_neg (by omega), List.getElem?_eq_getElem (by omega)]; rfl
   have hgj : (ints (revP l i))[l.length - 1 - i]? = some [dI (l[l.length - 1 - i]'(by omega))] := by rw [List.getElem?_map, revP_get hi (by omega), if_neg (by omega), List.getElem?_eq_getElem (by omega)]; rfl
   have hst := revP_step h2
   obtain ⟨u, hu⟩ : ∃ u, u = l[i]'(by omega) := ⟨_, rfl⟩
   obtain ⟨v, hv⟩ : ∃ v, v = l[l.length - 1 - i]'(by omega) := ⟨_, rfl⟩
   rw [← hu] at hgi hst
   rw [← hv] at hgj hst
   have hgj2 : ((ints (revP l i)).set i ([dI u].set 0 (dI v)))[l.length - 1 - i]? = some [dI v] := by rw [List.getElem?_set_ne (by omega)]; exact hgj
   refine AC.drawn' mixed_ok [[], [], [], [], [], [], [4,5], [4,5,6], [], [], [8,9], [8,9,10], [0,1,4,5,6,7,8,9,10,11], [0,1,4,5,6,7,8,9,10,11,12], [0,1,2,3,4,5,6,7,8,9,10,11,12,13], [0,1,2,3,4,5,6,7,8,9,10,11,12,13,14]] (by decide) ?_
   refine DF.op 0 [] 16 rfl rfl rfl (.free rfl (NOp.of (by exact mv2 rfl))) rfl ?_
   refine DF.op 1 [] 16 rfl rfl rfl (.free rfl (NOp.of (by exact mv1 rfl))) rfl ?_
   refine DF.op 2 [] 16 rfl rfl rfl (.free rfl (NOp.of (by exact mv2 rfl))) rfl ?_
   refine DF.op 3 [] 16 rfl rfl rfl (.free rfl (NOp.of (by exact mv1 rfl))) rfl ?_
   refine DF.op 4 [] 16 rfl rfl rfl (.free rfl (NOp.of (by exact mv2 rfl))) rfl ?_
   refine DF.op 5 [] 16 rfl rfl rfl (.free rfl (NOp.of (by exact mv1 rfl))) rfl ?_
   refine DF.op 6 [4,5] 16 rfl rfl rfl (.free rfl (NOp.of (by exact g_ia_own (i := l.length - 1 - i) (l := l.length) rfl rfl rfl rfl rfl hI2 (by omega) rfl))) rfl ?_
   refine DF.op 7 [4,5,6] 16 rfl rfl rfl (.free rfl (NOp.of (by exact g_load_arr1 rfl rfl rfl rfl (by rw [Nat.mul_one]; exact hgj)))) rfl ?_
   refine DF.op 8 [] 16 rfl rfl rfl (.free rfl (NOp.of (by exact mv2 rfl))) rfl ?_
   refine DF.op 9 [] 16 rfl rfl rfl (.free rfl (NOp.of (by exact mv1 rfl))) rfl ?_
   refine DF.op 10 [8,9] 16 rfl rfl rfl (.free rfl (NOp.of (by exact g_ia_own (i := i) (l := l.length) rfl rfl rfl rfl rfl rfl (by omega) rfl))) rfl ?_
   refine DF.op 11 [8,9,10] 16 rfl rfl rfl (.free rfl (NOp.of (by exact g_load_arr1 rfl rfl rfl rfl (by rw [Nat.mul_one]; exact hgi)))) rfl ?_
   refine DF.op 12 [0,1,4,5,6,7,8,9,10,11] 16 rfl rfl rfl (.free rfl (NOp.of (by exact g_ia_own (i := i) (l := l.length) rfl rfl rfl rfl rfl rfl (by omega) rfl))) rfl ?_
   refine DF.op 13 [0,1,4,5,6,7,8,9,10,11,12] 16 rfl rfl rfl (.free rfl (by exact h_store_arr (i := i) (j := 0) (d := dI v) rfl rfl rfl rfl .same rfl hgi (by decide))) rfl ?_
   refine DF.op 14 (List.range 14) 16 rfl rfl rfl (.free rfl (NOp.of (by exact g_ia_own (i := l.length - 1 - i) (l := l.length) rfl rfl rfl rfl rfl hI2 (by omega) rfl))) rfl ?_
   refine DF.op 15 (List.range 15) 16 rfl rfl rfl (.free rfl (by exact h_store_arr (i := l.length - 1 - i) (j := 0) (d := dI u) rfl rfl rfl rfl .same rfl hgj2 (by decide))) rfl ?_
   refine DF.fin (ps := [(0,1),(0,2),(0,3),(0,4),(0,5),(0,6),(0,7),(0,8),(0,9),(0,10),(0,11),(1,0),(1,2),(1,3),(1,4),(1,5),(1,6),(1,7),(1,8),(1,9),(1,10),(1,11),(2,0),(2,1),(2,3),(2,4),(2,5),(2,6),(2,7),(2,8),(2,9),(2,10),(2,11),(2,12),(2,13),(3,0),(3,1),(3,2),(3,4),(3,5),(3,6),(3,7),(3,8),(3,9),(3,10),(3,11),(3,12),(3,13),(4,0),(4,1),(4,2),(4,3),(4,5),(4,8),(4,9),(4,10),(4,11),(5,0),(5,1),(5,2),(5,3),(5,4),(5,8),(5,9),(5,10),(5,11),(6,0),(6,1),(6,2),(6,3),(6,8),(6,9),(6,10),(6,11),(7,0),(7,1),(7,2),(7,3),(7,8),(7,9),(7,10),(7,11),(8,0),(8,1),(8,2),(8,3),(8,4),(8,5),(8,6),(8,7),(8,9),(9,0),(9,1),(9,2),(9,3),(9,4),(9,5),(9,6),(9,7),(9,8),(10,0),(10,1),(10,2),(10,3),(10,4),(10,5),(10,6),(10,7),(11,0),(11,1),(11,2),(11,3),(11,4),(11,5),(11,6),(11,7),(12,2),(12,3),(13,2),(13,3)]) 16 rfl (by decide +kernel) (by decide +kernel) (by rfl) ?_
   refine ib_n (th_n (AC.region ?_))
   refine AL.p (by exact mv1 rfl) rfl ?_
   refine AL.p (by exact g_arith rfl rfl rfl (by exact wrap_i64 (by omega))) rfl ?_
   refine AL.p (by exact mv1 rfl) rfl ?_
   refine AL.p (by exact g_arith rfl rfl rfl (by exact wrap_i64 (by omega))) rfl ?_
   refine AL.p (by exact as1 rfl) rfl ?_
   refine AL.p (by exact as1 rfl) rfl ?_
   refine AL.nil (th_n ?_)
   exact ⟨i + 1, by omega, by omega, Weak.ren _ [] hC rfl (by repeat (first | exact True.intro | refine And.intro ?_ ?_ | exact DLead.same | exact DLead.eqI (by omega) | exact rfl | refine ⟨_, rfl, ?_⟩)) (by rw [← hst, ints_set, ints_set]; repeat (first | exact True.intro | refine And.intro ?_ ?_ | exact rfl | refine ⟨_, _, rfl, rfl, ?_⟩)) rfl rfl rfl⟩
  ·refine AC.exit (th_e (th_e (ib_y (bq_n ?_))))
   have hrev := revP_all (l := l) (i := i) (by omega) hi
   exact retN [] rfl (by repeat (first | exact rfl | refine ⟨_, rfl, ?_⟩)) (by rw [← hrev]; repeat (first | exact True.intro | refine And.intro ?_ ?_ | exact rfl | refine ⟨_, _, rfl, rfl, ?_⟩)) rfl rfl
theorem en_revInts : Enters Tryz.prog 103 := enters_of Tryz.func103 rfl rfl
def movesR (x : Ex) (k : Int) : List Mv × Bool := if (goodR x && (decide (0 ≤ k) && decide (k ≤ (x.marks.length : Int) - 1))) = true then (x.moves.filter (fun v => decide (v.from_ = k)), true) else ([], false)
theorem mvIn_no {x : Ex} {k : Nat} (hk : k < x.moves.length) (h : mvIn x.marks.length x.moves[k] = false) : goodR x = false := by
 cases hg : goodR x with
 | false => rfl
 | true => have := (goodR_iff.1 hg).2.2.2 _ (List.getElem_mem hk); rw [h] at this; cases this
theorem goodR_with {x : Ex} (h : ∀ k (hk : k < x.moves.length), mvIn x.marks.length x.moves[k] = true) : goodR x = ((decide ((1 : Int) ≤ x.marks.length) && decide ((x.marks.length : Int) ≤ 300)) && (decide (((seenP x.marks).length : Int) = (x.marks.length : Int)) && decide ((x.moves.length : Int) ≤ 4000))) := by
 have ha : x.moves.all (mvIn x.marks.length) = true := by
  rw [List.all_eq_true]
  intro v hv
  obtain ⟨j, hj, rfl⟩ := List.getElem_of_mem hv
  exact h j hj
 have e1 : decide ((1 : Int) ≤ x.marks.length) = decide (1 ≤ x.marks.length) := decide_eq_decide.2 (by omega)
 have e2 : decide ((x.marks.length : Int) ≤ 300) = decide (x.marks.length ≤ 300) := decide_eq_decide.2 (by omega)
 have e3 : decide ((x.moves.length : Int) ≤ 4000) = decide (x.moves.length ≤ 4000) := decide_eq_decide.2 (by omega)
 have e4 : decide (((seenP x.marks).length : Int) = (x.marks.length : Int)) = decide x.marks.Nodup := by rw [← seen_ok]; exact decide_eq_decide.2 (by omega)
 rw [goodR, e1, e2, e3, e4, ha, Bool.and_true, Bool.and_comm (decide (x.moves.length ≤ 4000))]
set_option maxHeartbeats 4000000 in
theorem iIsReach_spec (x : Ex) (h1l : x.marks.length ≤ 1000000) (h2l : x.moves.length ≤ 1000000) : ASpec Tryz.prog 105 [rgA x] [] (Pure1 (aT (goodR x))) := by
 have hsn := fun k => (seen_len (x.marks.take k)).1
 refine ASpec.of Tryz.func105 rfl rfl fun C hC => ?_
 refine AC.seq (AC.region ?_)
 refine AL.q (by exact h_boxF rfl rfl) rfl ?_
 refine AL.p (by exact as1 rfl) rfl ?_
 refine AL.nil (th_n (AC.seq (AC.region ?_)))
 refine AL.p (by exact g_fa_ref rfl rfl rfl rfl rfl rfl) rfl ?_
 refine AL.p (by exact g_load_ref rfl rfl rfl) rfl ?_
 refine AL.p (by exact g_len_view (k := x.marks.length) rfl rfl (tsX_len _)) rfl ?_
 refine AL.p (by exact g_arith rfl rfl rfl (by exact wrap_i64 (by omega))) rfl ?_
 refine AL.p (by exact as1 rfl) rfl ?_
 refine AL.nil (th_n (AC.seq (AC.seq (AC.region ?_))))
 refine AL.p (by exact g_fa_ref rfl rfl rfl rfl rfl rfl) rfl ?_
 refine AL.p (by exact g_load_ref rfl rfl rfl) rfl ?_
 refine AL.p (by exact g_len_view (k := x.moves.length) rfl rfl (mvL_len _)) rfl ?_
 refine AL.p (by exact mv1 rfl) rfl ?_
 refine AL.nil (th_n (AC.block ?_))
 refine AC.loop (ι := Nat) (fun k => ⟨68, 300, [(1, .d (.ref (rgD x))), (3, aI ((x.marks.length : Int) - 1)), (14, .d (vMvs x.moves)), (15, aI x.moves.length), (16, aI k)], []⟩) (fun k => k ≤ x.moves.length ∧ ∀ j (hj : j < x.moves.length), j < k → mvIn x.marks.length x.moves[j] = true) (fun k => x.moves.length - k) (0) ?_ (⟨Nat.zero_le _, fun j hj hj2 => by omega⟩) ?_
 ·refine Weak.ren _ [] hC rfl ?_ ?_ rfl rfl rfl <;> repeat (first | exact True.intro | refine And.intro ?_ ?_ | exact DLead.same)
 ·intro k ⟨hk, hall⟩
  refine AC.seq (AC.region ?_)
  refine AL.p (by exact g_cmp rfl rfl rfl) rfl ?_
  refine AL.nil (th_n (AC.seq ?_))
  refine AC.condD rfl (fun h0 => ?_) (fun h0 => ?_)
  ·refine AC.skip (th_n (AC.seq (AC.block (AC.seq ?_))))
   have hk1 : k < x.moves.length := by omega
   have hget := mvL_get hk1
   have hno := mvIn_no hk1
   obtain ⟨v, hv⟩ : ∃ v, v = x.moves[k] := ⟨_, rfl⟩
   rw [← hv] at hget hno
   have hmv : mvIn x.marks.length v = (((decide (0 ≤ v.from_) && decide (v.from_ ≤ (x.marks.length : Int) - 1)) && (decide (0 ≤ v.to_) && decide (v.to_ ≤ (x.marks.length : Int) - 1))) && (decide (0 ≤ v.by_) && decide (v.by_ ≤ 23))) := rfl
   have hW1 := within_spec v.from_ 0 ((x.marks.length : Int) - 1)
   have hW2 := within_spec v.to_ 0 ((x.marks.length : Int) - 1)
   have hW3 := within_spec v.by_ 0 23
   obtain ⟨b1, hb1⟩ : ∃ b, b = (decide (0 ≤ v.from_) && decide (v.from_ ≤ (x.marks.length : Int) - 1)) := ⟨_, rfl⟩
   obtain ⟨b2, hb2⟩ : ∃ b, b = (decide (0 ≤ v.to_) && decide (v.to_ ≤ (x.marks.length : Int) - 1)) := ⟨_, rfl⟩
   obtain ⟨b3, hb3⟩ : ∃ b, b = (decide (0 ≤ v.by_) && decide (v.by_ ≤ 23)) := ⟨_, rfl⟩
   rw [← hb1] at hW1 hmv
   rw [← hb2] at hW2 hmv
   rw [← hb3] at hW3 hmv
   clear hb1 hb2 hb3
   refine AC.region ?_
   refine AL.p (by exact g_ia_view rfl rfl rfl rfl rfl (by rfl) (by assumption)) rfl ?_
   refine AL.p (by exact g_load_refN rfl rfl rfl rfl) rfl ?_
   refine AL.q (by exact h_alloc rfl) rfl ?_
   refine AL.q (by exact h_store rfl rfl rfl rfl rfl rfl) rfl ?_
   refine AL.nil (th_n (AC.seq (AC.region ?_)))
   refine AL.p (by exact g_fa_ptr rfl rfl rfl rfl rfl) rfl ?_
   refine AL.p (by exact g_load_ptr rfl rfl rfl rfl rfl) rfl ?_
   refine AL.p (by exact mv1 rfl) rfl ?_
   refine AL.q (by exact h_pure en_within rfl rfl (by repeat (first | exact rfl | exact DLead.same | refine ⟨_, _, rfl, ?_, ?_⟩)) hW1 rfl) rfl ?_
   refine AL.p (by exact g_not rfl) rfl ?_
   refine AL.p (by exact mv1 rfl) rfl ?_
   refine AL.caseGB rfl rfl (fun h1 => ?_) (fun h1 => ?_)
   ·refine AL.not rfl rfl rfl rfl rfl ?_
    refine AL.not rfl rfl rfl rfl rfl ?_
    refine AL.not rfl rfl rfl rfl rfl ?_
    refine AL.not rfl rfl rfl rfl rfl ?_
    refine AL.not rfl rfl rfl rfl rfl ?_
    refine AL.p (by exact g_pickT (r := .d _) rfl rfl) rfl ?_
    refine AL.p (by exact mv1 rfl) rfl ?_
    refine AL.not rfl rfl rfl rfl rfl ?_
    refine AL.not rfl rfl rfl rfl rfl ?_
    refine AL.not rfl rfl rfl rfl rfl ?_
    refine AL.not rfl rfl rfl rfl rfl ?_
    refine AL.p (by exact g_pickT (r := .d _) rfl rfl) rfl ?_
    refine AL.nil (th_n ?_)
    refine AC.condT rfl ?_
    refine AC.seq (AC.region ?_)
    refine AL.p (by exact as1 rfl) rfl ?_
    refine AL.nil (th_n (AC.ret (ib_r (th_r (th_r (ib_r (th_r (bq_r ?_))))))))
    exact ret1 rfl (by rw [hno (by rw [hmv]; simp_all)])
   ·refine AL.yes rfl rfl rfl ?_
    refine AL.p (by exact g_fa_ptr rfl rfl rfl rfl rfl) rfl ?_
    refine AL.yes rfl rfl rfl ?_
    refine AL.p (by exact g_load_ptr rfl rfl rfl rfl rfl) rfl ?_
    refine AL.yes rfl rfl rfl ?_
    refine AL.p (by exact mv1 rfl) rfl ?_
    refine AL.yes rfl rfl rfl ?_
    refine AL.q (by exact h_pure en_within rfl rfl (by repeat (first | exact rfl | exact DLead.same | refine ⟨_, _, rfl, ?_, ?_⟩)) hW2 rfl) rfl ?_
    refine AL.yes rfl rfl rfl ?_
    refine AL.p (by exact g_not rfl) rfl ?_
    refine AL.p (by exact g_pickF (r := .d _) rfl rfl) rfl ?_
    refine AL.p (by exact mv1 rfl) rfl ?_
    refine AL.caseGB rfl rfl (fun h2 => ?_) (fun h2 => ?_)
    ·refine AL.not rfl rfl rfl rfl rfl ?_
     refine AL.not rfl rfl rfl rfl rfl ?_
     refine AL.not rfl rfl rfl rfl rfl ?_
     refine AL.not rfl rfl rfl rfl rfl ?_
     refine AL.p (by exact g_pickT (r := .d _) rfl rfl) rfl ?_
     refine AL.nil (th_n ?_)
     refine AC.condT rfl ?_
     refine AC.seq (AC.region ?_)
     refine AL.p (by exact as1 rfl) rfl ?_
     refine AL.nil (th_n (AC.ret (ib_r (th_r (th_r (ib_r (th_r (bq_r ?_))))))))
     exact ret1 rfl (by rw [hno (by rw [hmv]; simp_all)])
    ·refine AL.yes rfl rfl rfl ?_
     refine AL.p (by exact g_fa_ptr rfl rfl rfl rfl rfl) rfl ?_
     refine AL.yes rfl rfl rfl ?_
     refine AL.p (by exact g_load_ptr rfl rfl rfl rfl rfl) rfl ?_
     refine AL.yes rfl rfl rfl ?_
     refine AL.q (by exact h_pure en_within rfl rfl (by repeat (first | exact rfl | exact DLead.same | refine ⟨_, _, rfl, ?_, ?_⟩)) hW3 rfl) rfl ?_
     refine AL.yes rfl rfl rfl ?_
     refine AL.p (by exact g_not rfl) rfl ?_
     refine AL.p (by exact g_pickF (r := .d _) rfl rfl) rfl ?_
     refine AL.nil (th_n ?_)
     refine AC.condB rfl (fun h3 => ?_) (fun h3 => ?_)
     ·refine AC.seq (AC.region ?_)
      refine AL.p (by exact as1 rfl) rfl ?_
      refine AL.nil (th_n (AC.ret (ib_r (th_r (th_r (ib_r (th_r (bq_r ?_))))))))
      exact ret1 rfl (by rw [hno (by rw [hmv]; simp_all)])
     ·refine AC.skip (ib_n (th_n (AC.region ?_)))
      refine AL.p (by exact g_arith rfl rfl rfl (by exact wrap_i64 (by omega))) rfl ?_
      refine AL.p (by exact mv1 rfl) rfl ?_
      refine AL.nil (th_n ?_)
      have hmt : mvIn x.marks.length v = true := by rw [hmv]; simp_all
      exact ⟨k + 1, ⟨by omega, fun j hj hj2 => by rcases Nat.lt_succ_iff_lt_or_eq.1 hj2 with h | rfl; exact hall j hj h; rw [← hv]; exact hmt⟩, by omega, Weak.ren _ [] hC rfl (by repeat (first | exact True.intro | refine And.intro ?_ ?_ | exact DLead.same)) (by repeat (exact True.intro)) rfl rfl rfl⟩
  ·refine AC.exit (th_e (th_e (ib_y (th_n (AC.seq ?_)))))
   have hgw := goodR_with (x := x) (fun j hj => hall j hj (by omega))
   obtain ⟨G, hG⟩ : ∃ G, G = goodR x := ⟨_, rfl⟩
   rw [← hG] at hgw ⊢
   clear hG
   have hW1 := within_spec x.marks.length 1 300
   obtain ⟨b1, hb1⟩ : ∃ b, b = (decide ((1 : Int) ≤ x.marks.length) && decide ((x.marks.length : Int) ≤ 300)) := ⟨_, rfl⟩
   rw [← hb1] at hW1 hgw
   clear hb1
   refine AC.region ?_
   refine AL.q (by exact h_makeMap) rfl ?_
   refine AL.p (by exact as11 rfl) rfl ?_
   refine AL.nil (th_n (AC.seq (AC.seq (AC.region ?_))))
   refine AL.p (by exact g_fa_ref rfl rfl rfl rfl rfl rfl) rfl ?_
   refine AL.p (by exact g_load_ref rfl rfl rfl) rfl ?_
   refine AL.p (by exact g_len_view (k := x.marks.length) rfl rfl (tsX_len _)) rfl ?_
   refine AL.p (by exact mv1 rfl) rfl ?_
   refine AL.nil (th_n (AC.block ?_))
   refine AC.loop (ι := Nat) (fun k => ⟨68, 600, [(1, .d (.ref (rgD x))), (6, .mp 203), (41, .d (.view 9 1 (tsX x.marks))), (42, aI x.marks.length), (43, aI k)], [(203, some (.map (seenP (x.marks.take k))))]⟩) (fun k => k ≤ x.marks.length) (fun k => x.marks.length - k) (0) ?_ (Nat.zero_le _) ?_
   ·exact Weak.ren _ [(203, _)] hC rfl (by repeat (first | exact True.intro | refine And.intro ?_ ?_ | exact DLead.same | exact rfl | refine ⟨_, rfl, ?_⟩)) (by rw [show seenP (x.marks.take 0) = [] from rfl]; repeat (first | exact True.intro | refine And.intro ?_ ?_ | exact rfl | refine ⟨_, _, rfl, rfl, ?_⟩)) rfl rfl rfl
   ·intro k hk
    refine AC.seq (AC.region ?_)
    refine AL.p (by exact g_cmp rfl rfl rfl) rfl ?_
    refine AL.nil (th_n (AC.seq ?_))
    refine AC.condD rfl (fun h1 => ?_) (fun h1 => ?_)
    ·refine AC.skip (th_n (AC.seq (AC.block (AC.seq ?_))))
     have hk1 : k < x.marks.length := by omega
     have hget := tsX_get hk1
     have hsnoc : seenP (x.marks.take (k + 1)) = setM (bstr x.marks[k]) (.bool true) (seenP (x.marks.take k)) := by rw [List.take_add_one, List.getElem?_eq_getElem hk1]; exact seen_snoc _ _
     obtain ⟨u, hu⟩ : ∃ u, u = x.marks[k] := ⟨_, rfl⟩
     rw [← hu] at hget hsnoc
     refine AC.region ?_
     refine AL.p (by exact g_ia_view rfl rfl rfl rfl rfl (by rfl) (by assumption)) rfl ?_
     refine AL.p (by exact g_load_ref rfl rfl rfl) rfl ?_
     refine AL.p (by exact as1 rfl) rfl ?_
     refine AL.nil (th_n (AC.region ?_))
     refine AL.p (by exact mv11 rfl) rfl ?_
     refine AL.p (by exact mv1 rfl) rfl ?_
     refine AL.q (by exact h_mapUpdate Tryz.underlying184 Tryz.underlying9 rfl rfl rfl rfl) rfl ?_
     refine AL.nil (ib_n (th_n (AC.region ?_)))
     refine AL.p (by exact g_arith rfl rfl rfl (by exact wrap_i64 (by omega))) rfl ?_
     refine AL.p (by exact mv1 rfl) rfl ?_
     refine AL.nil (th_n ?_)
     exact ⟨k + 1, by omega, by omega, Weak.ren _ [(203, 203)] hC rfl (by repeat (first | exact True.intro | refine And.intro ?_ ?_ | exact DLead.same | exact rfl | refine ⟨_, rfl, ?_⟩)) (by rw [hsnoc]; repeat (first | exact True.intro | refine And.intro ?_ ?_ | exact rfl | refine ⟨_, _, rfl, rfl, ?_⟩)) rfl rfl rfl⟩
    ·refine AC.exit (th_e (th_e (ib_y (th_n (AC.seq ?_)))))
     have hkk : k = x.marks.length := by omega
     rw [hkk, List.take_length]
     have hsl := (seen_len x.marks).1
     refine AC.region ?_
     refine AL.p (by exact g_fa_ref rfl rfl rfl rfl rfl rfl) rfl ?_
     refine AL.p (by exact g_load_ref rfl rfl rfl) rfl ?_
     refine AL.p (by exact g_len_view (k := x.marks.length) rfl rfl (tsX_len _)) rfl ?_
     refine AL.q (by exact h_pure en_within rfl rfl (by repeat (first | exact rfl | exact DLead.same | refine ⟨_, _, rfl, ?_, ?_⟩)) hW1 rfl) rfl ?_
     refine AL.p (by exact mv1 rfl) rfl ?_
     refine AL.caseGB rfl rfl (fun h2 => ?_) (fun h2 => ?_)
     ·refine AL.yes rfl rfl rfl ?_
      refine AL.p (by exact mv11 rfl) rfl ?_
      refine AL.yes rfl rfl rfl ?_
      refine AL.p (by exact g_len_map (bt := 0) (es := seenP x.marks) Tryz.underlying184 rfl rfl (by simp only [maxLen]; omega)) rfl ?_
      refine AL.yes rfl rfl rfl ?_
      refine AL.p (by exact g_fa_ref rfl rfl rfl rfl rfl rfl) rfl ?_
      refine AL.yes rfl rfl rfl ?_
      refine AL.p (by exact g_load_ref rfl rfl rfl) rfl ?_
      refine AL.yes rfl rfl rfl ?_
      refine AL.p (by exact g_len_view (k := x.marks.length) rfl rfl (tsX_len _)) rfl ?_
      refine AL.yes rfl rfl rfl ?_
      refine AL.p (by exact g_cmp rfl rfl rfl) rfl ?_
      refine AL.p (by exact g_pickT (r := .d _) rfl rfl) rfl ?_
      refine AL.p (by exact mv1 rfl) rfl ?_
      refine AL.caseG rfl rfl (fun h3 => ?_) (fun h3 => ?_)
      ·refine AL.yes rfl rfl rfl ?_
       refine AL.p (by exact g_fa_ref rfl rfl rfl rfl rfl rfl) rfl ?_
       refine AL.yes rfl rfl rfl ?_
       refine AL.p (by exact g_load_ref rfl rfl rfl) rfl ?_
       refine AL.yes rfl rfl rfl ?_
       refine AL.p (by exact g_len_view (k := x.moves.length) rfl rfl (mvL_len _)) rfl ?_
       refine AL.yes rfl rfl rfl ?_
       refine AL.p (by exact g_cmp rfl rfl rfl) rfl ?_
       refine AL.p (by exact g_pickT (r := .d _) rfl rfl) rfl ?_
       refine AL.p (by exact as1 rfl) rfl ?_
       refine AL.nil (th_n (AC.ret (bq_r ?_)))
       exact ret1 rfl (by rw [hgw]; simp_all)
      ·refine AL.not rfl rfl rfl rfl rfl ?_
       refine AL.not rfl rfl rfl rfl rfl ?_
       refine AL.not rfl rfl rfl rfl rfl ?_
       refine AL.not rfl rfl rfl rfl rfl ?_
       refine AL.p (by exact g_pickF (r := .d _) rfl rfl) rfl ?_
       refine AL.p (by exact as1 rfl) rfl ?_
       refine AL.nil (th_n (AC.ret (bq_r ?_)))
       exact ret1 rfl (by rw [hgw]; simp_all)
     ·refine AL.not rfl rfl rfl rfl rfl ?_
      refine AL.not rfl rfl rfl rfl rfl ?_
      refine AL.not rfl rfl rfl rfl rfl ?_
      refine AL.not rfl rfl rfl rfl rfl ?_
      refine AL.not rfl rfl rfl rfl rfl ?_
      refine AL.not rfl rfl rfl rfl rfl ?_
      refine AL.p (by exact g_pickF (r := .d _) rfl rfl) rfl ?_
      refine AL.p (by exact mv1 rfl) rfl ?_
      refine AL.not rfl rfl rfl rfl rfl ?_
      refine AL.not rfl rfl rfl rfl rfl ?_
      refine AL.not rfl rfl rfl rfl rfl ?_
      refine AL.not rfl rfl rfl rfl rfl ?_
      refine AL.p (by exact g_pickF (r := .d _) rfl rfl) rfl ?_
      refine AL.p (by exact as1 rfl) rfl ?_
      refine AL.nil (th_n (AC.ret (bq_r ?_)))
      exact ret1 rfl (by rw [hgw]; simp_all)
theorem en_iIsReach : Enters Tryz.prog 105 := enters_of Tryz.func105 rfl rfl
theorem posI_in (m : List UInt8) (l : List (List UInt8)) : -1 ≤ posI m l ∧ posI m l < l.length := by
 unfold posI
 split
 ·rename_i i h; have := posL_lt h; omega
 ·omega
theorem nodup_pre {l : List (List UInt8)} {k : Nat} (hk : k < l.length) (h : 0 ≤ posI l[k] (l.take k)) : ¬ l.Nodup := by
 intro hn
 unfold posI at h
 split at h
 ·rename_i i hp
  have h1 := posL_get hp
  have h2 := posL_lt hp
  have h3 : i < k := by rw [List.length_take] at h2; omega
  rw [List.getElem?_take_of_lt h3, List.getElem?_eq_getElem (by omega)] at h1
  have := (List.getElem_inj hn).1 (Option.some.inj h1)
  omega
 ·omega
theorem nodup_all {l : List (List UInt8)} : (∀ k (hk : k < l.length), ¬ 0 ≤ posI l[k] (l.take k)) → l.Nodup := by
 intro h
 have : ∀ n, n ≤ l.length → (l.take n).Nodup := by
  intro n
  induction n with
  | zero => intro _; simp
  | succ n ih =>
   intro hn
   rw [List.take_add_one, List.getElem?_eq_getElem (by omega)]
   refine nodup_snoc.2 ⟨ih (by omega), ?_⟩
   have := h n (by omega)
   rw [← posL_none]
   unfold posI at this
   split at this
   ·exact absurd (Int.natCast_nonneg _) this
   ·assumption
 have := this l.length (Nat.le_refl _)
 rwa [List.take_length] at this
set_option maxHeartbeats 4000000 in
theorem sGoodR_spec (x : Ex) (h1l : x.marks.length ≤ 1000000) (h2l : x.moves.length ≤ 1000000) : ASpec Tryz.prog 115 [rgA x] [] (Pure1 (aT (goodR x))) := by
 have hW0 := l1In_spec x.marks.length 1 300
 have hN1 : ¬ (1 ≤ x.marks.length ∧ x.marks.length ≤ 300) ∨ ¬ x.moves.length ≤ 4000 ∨ ¬ x.marks.Nodup → goodR x = false := fun h => by
  cases hg : goodR x with
  | false => rfl
  | true => have := goodR_iff.1 hg; rcases h with h | h | h; exact absurd this.1 h; exact absurd this.2.1 h; exact absurd this.2.2.1 h
 refine ASpec.of Tryz.func115 rfl rfl fun C hC => ?_
 refine AC.seq (AC.region ?_)
 refine AL.q (by exact h_boxF rfl rfl) rfl ?_
 refine AL.p (by exact as1 rfl) rfl ?_
 refine AL.nil (th_n (AC.seq (AC.seq (AC.region ?_))))
 refine AL.p (by exact g_fa_ref rfl rfl rfl rfl rfl rfl) rfl ?_
 refine AL.p (by exact g_load_ref rfl rfl rfl) rfl ?_
 refine AL.p (by exact g_len_view (k := x.marks.length) rfl rfl (tsX_len _)) rfl ?_
 refine AL.q (by exact h_pure en_l1In rfl rfl (by repeat (first | exact rfl | exact DLead.same | refine ⟨_, _, rfl, ?_, ?_⟩)) hW0 rfl) rfl ?_
 refine AL.p (by exact g_not rfl) rfl ?_
 refine AL.p (by exact mv1 rfl) rfl ?_
 refine AL.caseGB rfl rfl (fun h0 => ?_) (fun h0 => ?_)
 ·refine AL.not rfl rfl rfl rfl rfl ?_
  refine AL.not rfl rfl rfl rfl rfl ?_
  refine AL.not rfl rfl rfl rfl rfl ?_
  refine AL.not rfl rfl rfl rfl rfl ?_
  refine AL.p (by exact g_pickT (r := .d _) rfl rfl) rfl ?_
  refine AL.nil (th_n ?_)
  refine AC.condT rfl ?_
  refine AC.seq (AC.region ?_)
  refine AL.p (by exact as1 rfl) rfl ?_
  refine AL.nil (th_n (AC.ret (th_r (bq_r ?_))))
  exact ret1 rfl (by rw [hN1 (by (left; simp only [Bool.not_eq_true', Bool.and_eq_false_iff, decide_eq_false_iff_not] at h0; omega))])
 ·refine AL.yes rfl rfl rfl ?_
  refine AL.p (by exact g_fa_ref rfl rfl rfl rfl rfl rfl) rfl ?_
  refine AL.yes rfl rfl rfl ?_
  refine AL.p (by exact g_load_ref rfl rfl rfl) rfl ?_
  refine AL.yes rfl rfl rfl ?_
  refine AL.p (by exact g_len_view (k := x.moves.length) rfl rfl (mvL_len _)) rfl ?_
  refine AL.yes rfl rfl rfl ?_
  refine AL.p (by exact g_cmp rfl rfl rfl) rfl ?_
  refine AL.p (by exact g_pickF (r := .d _) rfl rfl) rfl ?_
  refine AL.nil (th_n ?_)
  refine AC.condD rfl (fun h1 => ?_) (fun h1 => ?_)
  ·refine AC.seq (AC.region ?_)
   refine AL.p (by exact as1 rfl) rfl ?_
   refine AL.nil (th_n (AC.ret (th_r (bq_r ?_))))
   exact ret1 rfl (by rw [hN1 (by (right; left; omega))])
  ·refine AC.skip (th_n (AC.seq (AC.seq ?_)))
   have hn1 : 1 ≤ x.marks.length ∧ x.marks.length ≤ 300 := by simp only [Bool.not_eq_false', Bool.and_eq_true, decide_eq_true_eq] at h0; omega
   have hn2 : x.moves.length ≤ 4000 := by omega
   refine AC.region ?_
   refine AL.p (by exact g_fa_ref rfl rfl rfl rfl rfl rfl) rfl ?_
   refine AL.p (by exact g_load_ref rfl rfl rfl) rfl ?_
   refine AL.p (by exact g_len_view (k := x.marks.length) rfl rfl (tsX_len _)) rfl ?_
   refine AL.p (by exact mv1 rfl) rfl ?_
   refine AL.nil (th_n (AC.block ?_))
   refine AC.loop (ι := Nat) (fun k => ⟨66, 300, [(1, .d (.ref (rgD x))), (19, .d (.view 9 1 (tsX x.marks))), (20, aI x.marks.length), (21, aI k)], []⟩) (fun k => k ≤ x.marks.length ∧ ∀ j (hj : j < x.marks.length), j < k → ¬ 0 ≤ posI x.marks[j] (x.marks.take j)) (fun k => x.marks.length - k) (0) ?_ (⟨Nat.zero_le _, fun j hj hj2 => by omega⟩) ?_
   ·refine Weak.ren _ [] hC rfl ?_ ?_ rfl rfl rfl <;> repeat (first | exact True.intro | refine And.intro ?_ ?_ | exact DLead.same)
   ·intro k ⟨hk, hall⟩
    refine AC.seq (AC.region ?_)
    refine AL.p (by exact g_cmp rfl rfl rfl) rfl ?_
    refine AL.nil (th_n (AC.seq ?_))
    refine AC.condD rfl (fun h2 => ?_) (fun h2 => ?_)
    ·refine AC.skip (th_n (AC.seq (AC.block (AC.seq ?_))))
     have hk1 : k < x.marks.length := by omega
     have hget := tsX_get hk1
     have hF := l4Find_spec (x.marks.take k) x.marks[k] (by rw [List.length_take]; omega)
     have hnd := nodup_pre hk1
     have hpi := posI_in x.marks[k] (x.marks.take k)
     rw [List.length_take] at hpi
     refine AC.region ?_
     refine AL.p (by exact mv1 rfl) rfl ?_
     refine AL.p (by exact g_ia_view rfl rfl rfl rfl rfl (by rfl) (by assumption)) rfl ?_
     refine AL.p (by exact g_load_ref rfl rfl rfl) rfl ?_
     refine AL.p (by exact as1 rfl) rfl ?_
     refine AL.p (by exact as1 rfl) rfl ?_
     refine AL.nil (th_n (AC.seq (AC.region ?_)))
     refine AL.p (by exact g_fa_ref rfl rfl rfl rfl rfl rfl) rfl ?_
     refine AL.p (by exact g_load_ref rfl rfl rfl) rfl ?_
     refine AL.p (by exact mv1 rfl) rfl ?_
     refine AL.p (by exact g_slice_view (l := 0) (h := k) (els := tsX x.marks) (r := tsX (x.marks.take k)) rfl rfl rfl rfl .none (.some rfl rfl) (Nat.zero_le _) (by rw [tsX_len]; omega) (by unfold tsX; rw [List.drop_zero, List.map_take])) rfl ?_
     refine AL.p (by exact mv1 rfl) rfl ?_
     refine AL.q (by exact h_pure en_l4Find rfl rfl (by repeat (first | exact rfl | exact DLead.same | refine ⟨_, _, rfl, ?_, ?_⟩)) hF rfl) rfl ?_
     refine AL.p (by exact g_cmp rfl rfl rfl) rfl ?_
     refine AL.nil (th_n ?_)
     refine AC.condD rfl (fun h3 => ?_) (fun h3 => ?_)
     ·refine AC.seq (AC.region ?_)
      refine AL.p (by exact as1 rfl) rfl ?_
      refine AL.nil (th_n (AC.ret (ib_r (th_r (th_r (ib_r (th_r (bq_r ?_))))))))
      exact ret1 rfl (by rw [hN1 (.inr (.inr (hnd (by assumption))))])
     ·refine AC.skip (ib_n (th_n (AC.region ?_)))
      refine AL.p (by exact g_arith rfl rfl rfl (by exact wrap_i64 (by omega))) rfl ?_
      refine AL.p (by exact mv1 rfl) rfl ?_
      refine AL.nil (th_n ?_)
      exact ⟨k + 1, ⟨by omega, fun j hj hj2 => by rcases Nat.lt_succ_iff_lt_or_eq.1 hj2 with h | rfl; exact hall j hj h; assumption⟩, by omega, Weak.ren _ [] hC rfl (by repeat (first | exact True.intro | refine And.intro ?_ ?_ | exact DLead.same)) (by repeat (exact True.intro)) rfl rfl rfl⟩
    ·refine AC.exit (th_e (th_e (ib_y (th_n (AC.seq (AC.seq ?_))))))
     have hnd := nodup_all (l := x.marks) (fun j hj => hall j hj (by omega))
     refine AC.region ?_
     refine AL.p (by exact g_fa_ref rfl rfl rfl rfl rfl rfl) rfl ?_
     refine AL.p (by exact g_load_ref rfl rfl rfl) rfl ?_
     refine AL.p (by exact g_len_view (k := x.moves.length) rfl rfl (mvL_len _)) rfl ?_
     refine AL.p (by exact mv1 rfl) rfl ?_
     refine AL.nil (th_n (AC.block ?_))
     refine AC.loop (ι := Nat) (fun k => ⟨66, 600, [(1, .d (.ref (rgD x))), (35, .d (vMvs x.moves)), (36, aI x.moves.length), (37, aI k)], []⟩) (fun k => k ≤ x.moves.length ∧ ∀ j (hj : j < x.moves.length), j < k → mvIn x.marks.length x.moves[j] = true) (fun k => x.moves.length - k) (0) ?_ (⟨Nat.zero_le _, fun j hj hj2 => by omega⟩) ?_
     ·refine Weak.ren _ [] hC rfl ?_ ?_ rfl rfl rfl <;> repeat (first | exact True.intro | refine And.intro ?_ ?_ | exact DLead.same)
     ·intro k ⟨hk, hall⟩
      refine AC.seq (AC.region ?_)
      refine AL.p (by exact g_cmp rfl rfl rfl) rfl ?_
      refine AL.nil (th_n (AC.seq ?_))
      refine AC.condD rfl (fun h3 => ?_) (fun h3 => ?_)
      ·refine AC.skip (th_n (AC.seq (AC.block (AC.seq ?_))))
       have hk1 : k < x.moves.length := by omega
       have hget := mvL_get hk1
       have hno := mvIn_no hk1
       obtain ⟨v, hv⟩ : ∃ v, v = x.moves[k] := ⟨_, rfl⟩
       rw [← hv] at hget hno
       have hmv : mvIn x.marks.length v = (((decide (0 ≤ v.from_) && decide (v.from_ ≤ (x.marks.length : Int) - 1)) && (decide (0 ≤ v.to_) && decide (v.to_ ≤ (x.marks.length : Int) - 1))) && (decide (0 ≤ v.by_) && decide (v.by_ ≤ 23))) := rfl
       have hW1 := l1In_spec v.from_ 0 ((x.marks.length : Int) - 1)
       have hW2 := l1In_spec v.to_ 0 ((x.marks.length : Int) - 1)
       have hW3 := l1In_spec v.by_ 0 23
       obtain ⟨b1, hb1⟩ : ∃ b, b = (decide (0 ≤ v.from_) && decide (v.from_ ≤ (x.marks.length : Int) - 1)) := ⟨_, rfl⟩
       obtain ⟨b2, hb2⟩ : ∃ b, b = (decide (0 ≤ v.to_) && decide (v.to_ ≤ (x.marks.length : Int) - 1)) := ⟨_, rfl⟩
       obtain ⟨b3, hb3⟩ : ∃ b, b = (decide (0 ≤ v.by_) && decide (v.by_ ≤ 23)) := ⟨_, rfl⟩
       rw [← hb1] at hW1 hmv
       rw [← hb2] at hW2 hmv
       rw [← hb3] at hW3 hmv
       clear hb1 hb2 hb3
       refine AC.region ?_
       refine AL.p (by exact g_ia_view rfl rfl rfl rfl rfl (by rfl) (by assumption)) rfl ?_
       refine AL.p (by exact g_load_refN rfl rfl rfl rfl) rfl ?_
       refine AL.q (by exact h_alloc rfl) rfl ?_
       refine AL.q (by exact h_store rfl rfl rfl rfl rfl rfl) rfl ?_
       refine AL.nil (th_n (AC.seq (AC.region ?_)))
       refine AL.p (by exact g_fa_ptr rfl rfl rfl rfl rfl) rfl ?_
       refine AL.p (by exact g_load_ptr rfl rfl rfl rfl rfl) rfl ?_
       refine AL.p (by exact g_fa_ref rfl rfl rfl rfl rfl rfl) rfl ?_
       refine AL.p (by exact g_load_ref rfl rfl rfl) rfl ?_
       refine AL.p (by exact g_len_view (k := x.marks.length) rfl rfl (tsX_len _)) rfl ?_
       refine AL.p (by exact g_arith rfl rfl rfl (by exact wrap_i64 (by omega))) rfl ?_
       refine AL.q (by exact h_pure en_l1In rfl rfl (by repeat (first | exact rfl | exact DLead.same | refine ⟨_, _, rfl, ?_, ?_⟩)) hW1 rfl) rfl ?_
       refine AL.p (by exact g_not rfl) rfl ?_
       refine AL.p (by exact mv1 rfl) rfl ?_
       refine AL.caseGB rfl rfl (fun h4 => ?_) (fun h4 => ?_)
       ·refine AL.not rfl rfl rfl rfl rfl ?_
        refine AL.not rfl rfl rfl rfl rfl ?_
        refine AL.not rfl rfl rfl rfl rfl ?_
        refine AL.not rfl rfl rfl rfl rfl ?_
        refine AL.not rfl rfl rfl rfl rfl ?_
        refine AL.not rfl rfl rfl rfl rfl ?_
        refine AL.not rfl rfl rfl rfl rfl ?_
        refine AL.not rfl rfl rfl rfl rfl ?_
        refine AL.p (by exact g_pickT (r := .d _) rfl rfl) rfl ?_
        refine AL.p (by exact mv1 rfl) rfl ?_
        refine AL.not rfl rfl rfl rfl rfl ?_
        refine AL.not rfl rfl rfl rfl rfl ?_
        refine AL.not rfl rfl rfl rfl rfl ?_
        refine AL.not rfl rfl rfl rfl rfl ?_
        refine AL.p (by exact g_pickT (r := .d _) rfl rfl) rfl ?_
        refine AL.nil (th_n ?_)
        refine AC.condT rfl ?_
        refine AC.seq (AC.region ?_)
        refine AL.p (by exact as1 rfl) rfl ?_
        refine AL.nil (th_n (AC.ret (ib_r (th_r (th_r (ib_r (th_r (bq_r ?_))))))))
        exact ret1 rfl (by rw [hno (by rw [hmv]; simp_all)])
       ·refine AL.yes rfl rfl rfl ?_
        refine AL.p (by exact g_fa_ptr rfl rfl rfl rfl rfl) rfl ?_
        refine AL.yes rfl rfl rfl ?_
        refine AL.p (by exact g_load_ptr rfl rfl rfl rfl rfl) rfl ?_
        refine AL.yes rfl rfl rfl ?_
        refine AL.p (by exact g_fa_ref rfl rfl rfl rfl rfl rfl) rfl ?_
        refine AL.yes rfl rfl rfl ?_
        refine AL.p (by exact g_load_ref rfl rfl rfl) rfl ?_
        refine AL.yes rfl rfl rfl ?_
        refine AL.p (by exact g_len_view (k := x.marks.length) rfl rfl (tsX_len _)) rfl ?_
        refine AL.yes rfl rfl rfl ?_
        refine AL.p (by exact g_arith rfl rfl rfl (by exact wrap_i64 (by omega))) rfl ?_
        refine AL.yes rfl rfl rfl ?_
        refine AL.q (by exact h_pure en_l1In rfl rfl (by repeat (first | exact rfl | exact DLead.same | refine ⟨_, _, rfl, ?_, ?_⟩)) hW2 rfl) rfl ?_
        refine AL.yes rfl rfl rfl ?_
        refine AL.p (by exact g_not rfl) rfl ?_
        refine AL.p (by exact g_pickF (r := .d _) rfl rfl) rfl ?_
        refine AL.p (by exact mv1 rfl) rfl ?_
        refine AL.caseGB rfl rfl (fun h5 => ?_) (fun h5 => ?_)
        ·refine AL.not rfl rfl rfl rfl rfl ?_
         refine AL.not rfl rfl rfl rfl rfl ?_
         refine AL.not rfl rfl rfl rfl rfl ?_
         refine AL.not rfl rfl rfl rfl rfl ?_
         refine AL.p (by exact g_pickT (r := .d _) rfl rfl) rfl ?_
         refine AL.nil (th_n ?_)
         refine AC.condT rfl ?_
         refine AC.seq (AC.region ?_)
         refine AL.p (by exact as1 rfl) rfl ?_
         refine AL.nil (th_n (AC.ret (ib_r (th_r (th_r (ib_r (th_r (bq_r ?_))))))))
         exact ret1 rfl (by rw [hno (by rw [hmv]; simp_all)])
        ·refine AL.yes rfl rfl rfl ?_
         refine AL.p (by exact g_fa_ptr rfl rfl rfl rfl rfl) rfl ?_
         refine AL.yes rfl rfl rfl ?_
         refine AL.p (by exact g_load_ptr rfl rfl rfl rfl rfl) rfl ?_
         refine AL.yes rfl rfl rfl ?_
         refine AL.q (by exact h_pure en_l1In rfl rfl (by repeat (first | exact rfl | exact DLead.same | refine ⟨_, _, rfl, ?_, ?_⟩)) hW3 rfl) rfl ?_
         refine AL.yes rfl rfl rfl ?_
         refine AL.p (by exact g_not rfl) rfl ?_
         refine AL.p (by exact g_pickF (r := .d _) rfl rfl) rfl ?_
         refine AL.nil (th_n ?_)
         refine AC.condB rfl (fun h6 => ?_) (fun h6 => ?_)
         ·refine AC.seq (AC.region ?_)
          refine AL.p (by exact as1 rfl) rfl ?_
          refine AL.nil (th_n (AC.ret (ib_r (th_r (th_r (ib_r (th_r (bq_r ?_))))))))
          exact ret1 rfl (by rw [hno (by rw [hmv]; simp_all)])
         ·refine AC.skip (ib_n (th_n (AC.region ?_)))
          refine AL.p (by exact g_arith rfl rfl rfl (by exact wrap_i64 (by omega))) rfl ?_
          refine AL.p (by exact mv1 rfl) rfl ?_
          refine AL.nil (th_n ?_)
          have hmt : mvIn x.marks.length v = true := by rw [hmv]; simp_all
          exact ⟨k + 1, ⟨by omega, fun j hj hj2 => by rcases Nat.lt_succ_iff_lt_or_eq.1 hj2 with h | rfl; exact hall j hj h; rw [← hv]; exact hmt⟩, by omega, Weak.ren _ [] hC rfl (by repeat (first | exact True.intro | refine And.intro ?_ ?_ | exact DLead.same)) (by repeat (exact True.intro)) rfl rfl rfl⟩
      ·refine AC.exit (th_e (th_e (ib_y (th_n (AC.seq (AC.region ?_))))))
       refine AL.p (by exact as1 rfl) rfl ?_
       refine AL.nil (th_n (AC.ret (bq_r ?_)))
       have hg : goodR x = true := goodR_iff.2 ⟨hn1, hn2, hnd, fun v hv => by obtain ⟨j, hj, rfl⟩ := List.getElem_of_mem hv; exact hall j hj (by omega)⟩
       exact ret1 rfl (by rw [hg])
theorem en_sGoodR : Enters Tryz.prog 115 := enters_of Tryz.func115 rfl rfl
end Go.Proofs.YthafkkgmekgmoaaGreat
