/- Contracts of the functions of the program and of the reference, each proved by a walk through its code. -/
import Derived.WalkKit
import Derived.WalkSpells
import Derived.WalkLawsBesides
import Derived.Deep.Draws
import Derived.Lib.Hide
import Derived.Maps.AppendAt
import Derived.OwnWalk
import Derived.Deep.MidRow
import Derived.Laws.ResultCell
import Derived.Deep.Upon
import Derived.Great.FillDense
import Derived.Laws.Tables
import Derived.Laws.BytesArg
import Derived.Laws.MakeOwn
import Derived.Great.BuildSlice
import Derived.ArgAppend
import Derived.Deep.AppendSrc
import Derived.Test.YtlpafiiaminjkaaGreatProg
import Derived.KernelRfl
import Derived.Orders
import Derived.Laws.IdiomStrings
import Derived.Lib.AppendZerosOnto
import Derived.ProofKit
import Derived.OpenShut
import Derived.Laws.StructEq
import Derived.ChangeKeysEq
import Derived.Sort.Grow
import Derived.Shelf.Small.Bits
import Derived.Shelf.Strconv.Itoa0
import Derived.Shelf.Sort.Plain
import Derived.Ground.Names2Prog
import Derived.Shelf.Slices.Clone
import Derived.Shelf.Slices.SearchI
import Derived.Shelf.Slices.In.SortNone
import Derived.Ground.SlgnProg
import Derived.Shelf.SlicesE.Clone
import Derived.Test.YtlpafiiaminjkaaGreatRows
import Derived.Test.YtlpafiiaminjkaaGreatChecked
import Derived.Test.YtlpafiiaminjkaaGreatGCmp6
set_option linter.all false
set_option maxRecDepth 20000
namespace Go.Proofs.YtlpafiiaminjkaaGreat
open Go.RowKit

set_option maxHeartbeats 2000000 in
theorem l8Fired_spec (u : Unf) (e : Int) (hw : WF u) (he : 0 ≤ e ∧ e < u.es.length) : ASpec Tryz.prog 104 [unfA u, aI e] [] (Pure1 (.d (vI (firedI u e)))) := by
  have hel := hw.e
  have hP := l7Past_spec u [e] hw (by simp) (by simp; exact he.2)
  have hpin := past_in (u := u) [e]
  have hpl : (pastI u [e]).length ≤ u.es.length := flagL_len (pastFl u [e]) u.es.length
  have hf : firedI u e = sortI (evTs u (pastI u [e])) := rfl
  obtain ⟨p, hp⟩ : ∃ p, p = pastI u [e] := ⟨_, rfl⟩
  rw [← hp] at hP hpin hpl hf
  have hS := l8Sorted_spec (evTs u p) (by rw [evTs_len]; omega)
  rw [← hf] at hS
  refine ASpec.of Tryz.func104 rfl rfl fun C hC => ?_
  refine AC.seq ?_
  refine AC.region ?_
  refine AL.q (by exact h_boxF rfl rfl) rfl ?_
  refine AL.p (by exact as1 rfl) rfl ?_
  refine AL.nil ?_
  refine th_n ?_
  refine AC.seq ?_
  refine AC.region ?_
  refine AL.p (by exact as1 rfl) rfl ?_
  refine AL.nil ?_
  refine th_n ?_
  refine AC.seq ?_
  refine AC.seq ?_
  refine AC.region ?_
  refine AL.p (by exact g_load_refN rfl rfl rfl rfl) rfl ?_
  refine AL.p (by exact mv1 rfl) rfl ?_
  refine AL.q (by exact h_litF rfl rfl rfl rfl rfl rfl rfl rfl) rfl ?_
  refine AL.q (by exact h_pure en_l7Past rfl rfl (by repeat (first | exact rfl | exact DLead.same | refine ⟨_, _, rfl, ?_, ?_⟩ | refine ⟨_, rfl, ?_⟩)) hP rfl) rfl ?_
  refine AL.p (by exact g_len_view rfl rfl (by exact List.length_map _)) rfl ?_
  refine AL.p (by exact mv1 rfl) rfl ?_
  refine AL.nil ?_
  refine th_n ?_
  refine AC.block ?_
  refine AC.loop (ι := Nat) (fun k => ⟨29, 108, [(2, .d (.ref (unfD u))), (5, .own 100 k), (11, .d (vI p)), (12, aI p.length), (13, aI k)], [(100, some (.arr 3 1 (ints (evTs u (p.take k)))))]⟩) (fun k => k ≤ p.length) (fun k => p.length - k) (0) ?_ (Nat.zero_le _) ?_
  · exact (Weak.nilOwn (i := 5) (e := 3) (sz := 1) rfl (by decide)).trans (Weak.ren _ [(100, _)] hC rfl (by repeat (first | exact True.intro | refine And.intro ?_ ?_ | exact DLead.same | exact rfl | refine ⟨_, rfl, ?_⟩)) (by repeat (first | exact True.intro | refine And.intro ?_ ?_ | exact rfl | refine ⟨_, _, rfl, rfl, ?_⟩)) rfl rfl rfl)
  · intro k hk
    refine AC.seq ?_
    refine AC.region ?_
    refine AL.p (by exact g_cmp rfl rfl rfl) rfl ?_
    refine AL.nil ?_
    refine th_n ?_
    refine AC.seq ?_
    refine AC.condD rfl (fun h0 => ?_) (fun h0 => ?_)
    · refine AC.skip ?_
      refine th_n ?_
      refine AC.seq ?_
      refine AC.block ?_
      refine AC.seq ?_
      have hk1 : k < p.length := by omega
      have hget := ints_at hk1
      have hi0 := hpin _ (List.getElem_mem hk1)
      obtain ⟨i, hi⟩ : ∃ i : Nat, p[k] = (i : Int) := ⟨p[k].toNat, by omega⟩
      have hil : i < u.es.length := by omega
      have hgete := evsL_get hil
      have htv : evT u p[k] = u.es[i].t := by rw [hi]; exact evT_nat hil
      have htk := evTs_take (u := u) hk1
      rw [htv] at htk
      have htl : (evTs u (p.take k)).length = k := by rw [evTs_len, List.length_take]; omega
      rw [hi] at hget
      refine AC.region ?_
      refine AL.p (by exact g_ia_view rfl rfl rfl rfl rfl (by rfl) (by assumption)) rfl ?_
      refine AL.p (by exact g_load_ref rfl rfl rfl) rfl ?_
      refine AL.p (by exact as1 rfl) rfl ?_
      refine AL.nil ?_
      refine th_n ?_
      refine AC.region ?_
      refine AL.p (by exact mv2 rfl) rfl ?_
      refine AL.p (by exact g_fa_ref rfl rfl rfl rfl rfl rfl) rfl ?_
      refine AL.p (by exact g_load_ref rfl rfl rfl) rfl ?_
      refine AL.p (by exact mv1 rfl) rfl ?_
      refine AL.p (by exact g_ia_view rfl rfl rfl rfl rfl (by rfl) (by assumption)) rfl ?_
      refine AL.p (by exact g_fa_ref rfl rfl rfl rfl rfl rfl) rfl ?_
      refine AL.p (by exact g_load_ref rfl rfl rfl) rfl ?_
      refine AL.q (by exact h_litF rfl rfl rfl rfl rfl rfl rfl rfl) rfl ?_
      refine AL.q (by exact h_appendI (evTs u (p.take k)) [u.es[i].t] (.own rfl rfl (by rw [ints_len, htl])) (.view rfl) (by rw [List.length_append, htl]; show k + 1 ≤ _; omega) (by simp)) rfl ?_
      refine AL.p (by exact as2 rfl) rfl ?_
      refine AL.nil ?_
      refine ib_n ?_
      refine th_n ?_
      refine AC.region ?_
      refine AL.p (by exact g_arith rfl rfl rfl (by exact wrap_i64 (by omega))) rfl ?_
      refine AL.p (by exact mv1 rfl) rfl ?_
      refine AL.nil ?_
      refine th_n ?_
      have hl5 : (evTs u (p.take k) ++ [u.es[i].t]).length = k + 1 := by rw [List.length_append, htl]; rfl
      exact ⟨k + 1, by omega, by omega, Weak.ren _ [(100, _)] hC rfl (by rw [← hl5]; repeat (first | exact True.intro | refine And.intro ?_ ?_ | exact DLead.same | exact DLead.eqI (by omega) | exact rfl | refine ⟨_, rfl, ?_⟩)) (by rw [htk]; repeat (first | exact True.intro | refine And.intro ?_ ?_ | exact rfl | refine ⟨_, _, rfl, rfl, ?_⟩)) rfl rfl rfl⟩
    · refine AC.exit ?_
      refine th_e ?_
      refine th_e ?_
      refine ib_y ?_
      refine th_n ?_
      refine AC.seq ?_
      have hkk : k = p.length := by omega
      rw [hkk, List.take_length]
      have htl : (evTs u p).length = p.length := evTs_len _ _
      refine AC.weak (Weak.freeze (i := 5) (els' := ints (evTs u p)) rfl rfl (by rw [ints_len, htl]; exact Nat.le_refl _) (List.take_of_length_le (by rw [ints_len, htl]; exact Nat.le_refl _))) ?_
      refine AC.region ?_
      refine AL.p (by exact mv1 rfl) rfl ?_
      refine AL.q (by exact h_pure en_l8Sorted rfl rfl (by repeat (first | exact rfl | exact DLead.same | refine ⟨_, _, rfl, ?_, ?_⟩)) hS rfl) rfl ?_
      refine AL.p (by exact as1 rfl) rfl ?_
      refine AL.nil ?_
      refine th_n ?_
      refine AC.ret ?_
      refine bq_r ?_
      exact ret1 rfl rfl
theorem en_l8Fired : Enters Tryz.prog 104 := enters_of Tryz.func104 rfl rfl
theorem ahead_at : ∀ {x y : List Int} {k : Nat}, (∀ i, i < k → x[i]? = y[i]?) → k ≤ x.length → k ≤ y.length → aheadI x y = aheadI (x.drop k) (y.drop k)
  | x, y, 0, _, _, _ => by simp
  | [], _, k + 1, _, h, _ => by simp at h
  | _ :: _, [], k + 1, _, _, h => by simp at h
  | a :: x, b :: y, k + 1, h, hx, hy => by
    have h0 := h 0 (by omega)
    simp only [List.getElem?_cons_zero, Option.some.injEq] at h0
    rw [aheadI, if_pos h0, List.drop_succ_cons, List.drop_succ_cons]
    exact ahead_at (fun i hi => by have := h (i + 1) (by omega); simpa using this) (by simpa using hx) (by simpa using hy)
theorem ahead_ne {x y : List Int} {k : Nat} (h : ∀ i, i < k → x[i]? = y[i]?) (hx : k < x.length) (hy : k < y.length) (hne : ¬ x[k] = y[k]) : aheadI x y = decide (x[k] < y[k]) := by
  rw [ahead_at h (by omega) (by omega), List.drop_eq_getElem_cons hx, List.drop_eq_getElem_cons hy, aheadI, if_neg hne]
theorem ahead_end {x y : List Int} {k : Nat} (h : ∀ i, i < k → x[i]? = y[i]?) (hx : k ≤ x.length) (hy : k ≤ y.length) (he : x.length ≤ k ∨ y.length ≤ k) : aheadI x y = decide ((x.length : Int) < y.length) := by
  rw [ahead_at h hx hy]
  by_cases hxk : x.length ≤ k
  · have : x.drop k = [] := List.drop_eq_nil_of_le hxk
    rw [this]
    by_cases hyk : y.length ≤ k
    · have : y.drop k = [] := List.drop_eq_nil_of_le hyk
      rw [this, aheadI, decide_eq_false (by omega)]
    · rw [List.drop_eq_getElem_cons (by omega), aheadI, decide_eq_true (by omega)]
  · have hyk : y.length ≤ k := by omega
    have h1 : y.drop k = [] := List.drop_eq_nil_of_le hyk
    rw [h1, List.drop_eq_getElem_cons (by omega), aheadI, decide_eq_false (by omega)]
theorem eq_step {x y : List Int} {k : Nat} (h : ∀ i, i < k → x[i]? = y[i]?) (hx : k < x.length) (hy : k < y.length) (he : x[k] = y[k]) : ∀ i, i < k + 1 → x[i]? = y[i]? := by
  intro i hi
  rcases Nat.lt_succ_iff_lt_or_eq.1 hi with h' | rfl
  · exact h i h'
  · rw [List.getElem?_eq_getElem hx, List.getElem?_eq_getElem hy, he]
theorem not_bne {a b : Int} (h : ¬ ¬ a = b) : a = b := Classical.byContradiction h
set_option maxHeartbeats 2000000 in
theorem l7Ahead_spec (x y : List Int) (hx : x.length ≤ 1000000) (hy : y.length ≤ 1000000) : ASpec Tryz.prog 105 [.d (vI x), .d (vI y)] [] (Pure1 (aT (aheadI x y))) := by
  refine ASpec.of Tryz.func105 rfl rfl fun C hC => ?_
  refine AC.seq ?_
  refine AC.region ?_
  refine AL.p (by exact as1 rfl) rfl ?_
  refine AL.nil ?_
  refine th_n ?_
  refine AC.seq ?_
  refine AC.seq ?_
  refine AC.region ?_
  refine AL.p (by exact as1 rfl) rfl ?_
  refine AL.nil ?_
  refine th_n ?_
  refine AC.block ?_
  refine AC.loop (ι := Nat) (fun k => ⟨41, 8, [(0, .d (vI x)), (1, .d (vI y)), (5, aI k)], []⟩) (fun k => k ≤ x.length ∧ k ≤ y.length ∧ ∀ i, i < k → x[i]? = y[i]?) (fun k => x.length - k) (0) ?_ (⟨Nat.zero_le _, Nat.zero_le _, fun i hi => by omega⟩) ?_
  · refine Weak.ren _ [] hC rfl ?_ ?_ rfl rfl rfl <;> repeat (first | exact True.intro | refine And.intro ?_ ?_ | exact DLead.same)
  · intro k ⟨hk, hky, hall⟩
    refine AC.seq ?_
    refine AC.seq ?_
    refine AC.region ?_
    refine AL.p (by exact mv1 rfl) rfl ?_
    refine AL.p (by exact mv1 rfl) rfl ?_
    refine AL.p (by exact g_len_view rfl rfl (by exact List.length_map _)) rfl ?_
    refine AL.p (by exact g_cmp rfl rfl rfl) rfl ?_
    refine AL.p (by exact mv1 rfl) rfl ?_
    refine AL.caseG rfl rfl (fun h0 => ?_) (fun h0 => ?_)
    · refine AL.yes rfl rfl rfl ?_
      refine AL.p (by exact mv1 rfl) rfl ?_
      refine AL.yes rfl rfl rfl ?_
      refine AL.p (by exact mv1 rfl) rfl ?_
      refine AL.yes rfl rfl rfl ?_
      refine AL.p (by exact g_len_view rfl rfl (by exact List.length_map _)) rfl ?_
      refine AL.yes rfl rfl rfl ?_
      refine AL.p (by exact g_cmp rfl rfl rfl) rfl ?_
      refine AL.p (by exact g_pickT (r := .d _) rfl rfl) rfl ?_
      refine AL.nil ?_
      refine th_n ?_
      refine AC.condD rfl (fun h1 => ?_) (fun h1 => ?_)
      · refine AC.skip ?_
        refine th_n ?_
        refine AC.seq ?_
        refine AC.block ?_
        refine AC.seq ?_
        have hkx1 : k < x.length := by omega
        have hky1 : k < y.length := by omega
        have hgx := ints_at hkx1
        have hgy := ints_at hky1
        refine AC.drawn' mixed_ok [[], [], [0,1], [0,1,2], [], [], [4,5], [4,5,6], [0,1,2,3,4,5,6,7]] (by decide) ?_
        refine DF.op 0 [] 9 rfl rfl rfl (.free rfl (NOp.of (by exact mv1 rfl))) rfl ?_
        refine DF.op 1 [] 9 rfl rfl rfl (.free rfl (NOp.of (by exact mv1 rfl))) rfl ?_
        refine DF.op 2 [0,1] 9 rfl rfl rfl (.free rfl (NOp.of (by exact g_ia_view rfl rfl rfl rfl rfl (by rfl) (by assumption)))) rfl ?_
        refine DF.op 3 [0,1,2] 9 rfl rfl rfl (.free rfl (NOp.of (by exact g_load_ref rfl rfl rfl))) rfl ?_
        refine DF.op 4 [] 9 rfl rfl rfl (.free rfl (NOp.of (by exact mv1 rfl))) rfl ?_
        refine DF.op 5 [] 9 rfl rfl rfl (.free rfl (NOp.of (by exact mv1 rfl))) rfl ?_
        refine DF.op 6 [4,5] 9 rfl rfl rfl (.free rfl (NOp.of (by exact g_ia_view rfl rfl rfl rfl rfl (by rfl) (by assumption)))) rfl ?_
        refine DF.op 7 [4,5,6] 9 rfl rfl rfl (.free rfl (NOp.of (by exact g_load_ref rfl rfl rfl))) rfl ?_
        refine DF.op 8 [0,1,2,3,4,5,6,7] 9 rfl rfl rfl (.free rfl (NOp.of (by exact g_cmp rfl rfl rfl))) rfl ?_
        refine DF.fin (ps := [(0, 1), (0, 4), (0, 5), (0, 6), (0, 7), (1, 0), (1, 4), (1, 5), (1, 6), (1, 7), (2, 4), (2, 5), (2, 6), (2, 7), (3, 4), (3, 5), (3, 6), (3, 7), (4, 0), (4, 1), (4, 2), (4, 3), (4, 5), (5, 0), (5, 1), (5, 2), (5, 3), (5, 4), (6, 0), (6, 1), (6, 2), (6, 3), (7, 0), (7, 1), (7, 2), (7, 3)]) 9 rfl (by decide +kernel) (by decide +kernel) (by rfl) ?_
        refine th_n ?_
        refine AC.condND rfl (fun h2 => ?_) (fun h2 => ?_)
        · refine AC.seq ?_
          refine AC.drawn' mixed_ok [[], [], [0,1], [0,1,2], [], [], [4,5], [4,5,6], [0,1,2,3,4,5,6,7], [0,1,2,3,4,5,6,7,8]] (by decide) ?_
          refine DF.op 0 [] 10 rfl rfl rfl (.free rfl (NOp.of (by exact mv1 rfl))) rfl ?_
          refine DF.op 1 [] 10 rfl rfl rfl (.free rfl (NOp.of (by exact mv1 rfl))) rfl ?_
          refine DF.op 2 [0,1] 10 rfl rfl rfl (.free rfl (NOp.of (by exact g_ia_view rfl rfl rfl rfl rfl (by rfl) (by assumption)))) rfl ?_
          refine DF.op 3 [0,1,2] 10 rfl rfl rfl (.free rfl (NOp.of (by exact g_load_ref rfl rfl rfl))) rfl ?_
          refine DF.op 4 [] 10 rfl rfl rfl (.free rfl (NOp.of (by exact mv1 rfl))) rfl ?_
          refine DF.op 5 [] 10 rfl rfl rfl (.free rfl (NOp.of (by exact mv1 rfl))) rfl ?_
          refine DF.op 6 [4,5] 10 rfl rfl rfl (.free rfl (NOp.of (by exact g_ia_view rfl rfl rfl rfl rfl (by rfl) (by assumption)))) rfl ?_
          refine DF.op 7 [4,5,6] 10 rfl rfl rfl (.free rfl (NOp.of (by exact g_load_ref rfl rfl rfl))) rfl ?_
          refine DF.op 8 [0,1,2,3,4,5,6,7] 10 rfl rfl rfl (.free rfl (NOp.of (by exact g_cmp rfl rfl rfl))) rfl ?_
          refine DF.op 9 [0,1,2,3,4,5,6,7,8] 10 rfl rfl rfl (.free rfl (NOp.of (by exact as1 rfl))) rfl ?_
          refine DF.fin (ps := [(0, 1), (0, 4), (0, 5), (0, 6), (0, 7), (1, 0), (1, 4), (1, 5), (1, 6), (1, 7), (2, 4), (2, 5), (2, 6), (2, 7), (3, 4), (3, 5), (3, 6), (3, 7), (4, 0), (4, 1), (4, 2), (4, 3), (4, 5), (5, 0), (5, 1), (5, 2), (5, 3), (5, 4), (6, 0), (6, 1), (6, 2), (6, 3), (7, 0), (7, 1), (7, 2), (7, 3)]) 10 rfl (by decide +kernel) (by decide +kernel) (by rfl) ?_
          refine th_n ?_
          refine AC.ret ?_
          refine ib_r ?_
          refine th_r ?_
          refine th_r ?_
          refine ib_r ?_
          refine th_r ?_
          refine bq_r ?_
          exact ret1 rfl (by rw [ahead_ne hall hkx1 hky1 h2])
        · refine AC.skip ?_
          refine ib_n ?_
          refine th_n ?_
          refine AC.region ?_
          refine AL.p (by exact mv1 rfl) rfl ?_
          refine AL.p (by exact g_arith rfl rfl rfl (by exact wrap_i64 (by omega))) rfl ?_
          refine AL.p (by exact as1 rfl) rfl ?_
          refine AL.nil ?_
          refine th_n ?_
          exact ⟨k + 1, ⟨by omega, by omega, eq_step hall hkx1 hky1 h2⟩, by omega, Weak.ren _ [] hC rfl (by repeat (first | exact True.intro | refine And.intro ?_ ?_ | exact DLead.same)) (by repeat (exact True.intro)) rfl rfl rfl⟩
      · refine AC.exit ?_
        refine th_e ?_
        refine th_e ?_
        refine ib_y ?_
        refine th_n ?_
        refine AC.seq ?_
        refine AC.region ?_
        refine AL.p (by exact mv1 rfl) rfl ?_
        refine AL.p (by exact g_len_view rfl rfl (by exact List.length_map _)) rfl ?_
        refine AL.p (by exact mv1 rfl) rfl ?_
        refine AL.p (by exact g_len_view rfl rfl (by exact List.length_map _)) rfl ?_
        refine AL.p (by exact g_cmp rfl rfl rfl) rfl ?_
        refine AL.p (by exact as1 rfl) rfl ?_
        refine AL.nil ?_
        refine th_n ?_
        refine AC.ret ?_
        refine bq_r ?_
        exact ret1 rfl (by rw [ahead_end hall hk hky (by omega)])
    · refine AL.not rfl rfl rfl rfl rfl ?_
      refine AL.not rfl rfl rfl rfl rfl ?_
      refine AL.not rfl rfl rfl rfl rfl ?_
      refine AL.not rfl rfl rfl rfl rfl ?_
      refine AL.p (by exact g_pickF (r := .d _) rfl rfl) rfl ?_
      refine AL.nil ?_
      refine th_n ?_
      refine AC.condF rfl ?_
      refine AC.exit ?_
      refine th_e ?_
      refine th_e ?_
      refine ib_y ?_
      refine th_n ?_
      refine AC.seq ?_
      refine AC.region ?_
      refine AL.p (by exact mv1 rfl) rfl ?_
      refine AL.p (by exact g_len_view rfl rfl (by exact List.length_map _)) rfl ?_
      refine AL.p (by exact mv1 rfl) rfl ?_
      refine AL.p (by exact g_len_view rfl rfl (by exact List.length_map _)) rfl ?_
      refine AL.p (by exact g_cmp rfl rfl rfl) rfl ?_
      refine AL.p (by exact as1 rfl) rfl ?_
      refine AL.nil ?_
      refine th_n ?_
      refine AC.ret ?_
      refine bq_r ?_
      exact ret1 rfl (by rw [ahead_end hall hk hky (by omega)])
theorem en_l7Ahead : Enters Tryz.prog 105 := enters_of Tryz.func105 rfl rfl
set_option maxHeartbeats 2000000 in
theorem l8Compare_spec (u : Unf) (a b : Int) (hw : WF u) (ha : 0 ≤ a ∧ a < u.es.length) (hb : 0 ≤ b ∧ b < u.es.length) : ASpec Tryz.prog 64 [unfA u, aI a, aI b] [] (Pure1 (aI (cmpI u a b))) := by
  have hel := hw.e
  have hF1 := l8Fired_spec u a hw ha
  have hF2 := l8Fired_spec u b hw hb
  have hlen : ∀ e, (firedI u e).length ≤ 1000 := fun e => by
    have := flagL_len (pastFl u [e]) u.es.length
    unfold firedI; rw [sortI_len, evTs_len]; unfold pastI; omega
  have hl1 := hlen a
  have hl2 := hlen b
  have hJ0 : cmpI u a b = cmpS (firedI u a) (firedI u b) := (cmp_both _ _).symm
  obtain ⟨x, hx⟩ : ∃ x, x = firedI u a := ⟨_, rfl⟩
  obtain ⟨y, hy⟩ : ∃ y, y = firedI u b := ⟨_, rfl⟩
  rw [← hx] at hF1 hl1 hJ0
  rw [← hy] at hF2 hl2 hJ0
  have hA := l7Ahead_spec x y (by omega) (by omega)
  have hS := l1Same_spec x y (by omega) (by omega)
  obtain ⟨ah, hah⟩ : ∃ ah, ah = aheadI x y := ⟨_, rfl⟩
  have hJ : cmpI u a b = if (decide ((x.length : Int) < y.length) || (decide ((x.length : Int) = y.length) && ah)) = true then -1 else if decide (x = y) = true then 0 else 1 := by rw [hJ0, hah]; rfl
  rw [← hah] at hA
  obtain ⟨sm, hsm⟩ : ∃ sm, sm = decide (x = y) := ⟨_, rfl⟩
  rw [← hsm] at hS hJ
  refine ASpec.of Tryz.func64 rfl rfl fun C hC => ?_
  refine AC.seq ?_
  refine AC.region ?_
  refine AL.q (by exact h_boxF rfl rfl) rfl ?_
  refine AL.p (by exact as1 rfl) rfl ?_
  refine AL.nil ?_
  refine th_n ?_
  refine AC.seq ?_
  refine AC.drawn' mixed_ok [[], [], [0,1], [], [], [0,1,2,3,4], [0,1,2,3,4,5], [0,1,2,3,4,5,6]] (by decide) ?_
  refine DF.op 0 [] 8 rfl rfl rfl (.free rfl (NOp.of (by exact g_load_refN rfl rfl rfl rfl))) rfl ?_
  refine DF.op 1 [] 8 rfl rfl rfl (.free rfl (NOp.of (by exact mv1 rfl))) rfl ?_
  refine DF.op 2 [0,1] 8 rfl rfl rfl (.free rfl (by exact h_pure en_l8Fired rfl rfl (by repeat (first | exact rfl | exact DLead.same | refine ⟨_, _, rfl, ?_, ?_⟩ | refine ⟨_, rfl, ?_⟩)) hF1 rfl)) rfl ?_
  refine DF.op 3 [] 8 rfl rfl rfl (.free rfl (NOp.of (by exact g_load_refN rfl rfl rfl rfl))) rfl ?_
  refine DF.op 4 [] 8 rfl rfl rfl (.free rfl (NOp.of (by exact mv1 rfl))) rfl ?_
  refine DF.op 5 [0,1,2,3,4] 8 rfl rfl rfl (.free rfl (by exact h_pure en_l8Fired rfl rfl (by repeat (first | exact rfl | exact DLead.same | refine ⟨_, _, rfl, ?_, ?_⟩ | refine ⟨_, rfl, ?_⟩)) hF2 rfl)) rfl ?_
  refine DF.op 6 [0,1,2,3,4,5] 8 rfl rfl rfl (.free rfl (NOp.of (by exact as1 rfl))) rfl ?_
  refine DF.op 7 [0,1,2,3,4,5,6] 8 rfl rfl rfl (.free rfl (NOp.of (by exact as1 rfl))) rfl ?_
  refine DF.fin (ps := [(0, 1), (0, 3), (0, 4), (1, 0), (1, 3), (1, 4), (2, 3), (2, 4), (3, 0), (3, 1), (3, 2), (3, 4), (4, 0), (4, 1), (4, 2), (4, 3)]) 8 rfl (by decide +kernel) (by decide +kernel) (by rfl) ?_
  refine th_n ?_
  refine AC.seq ?_
  refine AC.block ?_
  refine AC.seq ?_
  refine AC.region ?_
  refine AL.p (by exact mv1 rfl) rfl ?_
  refine AL.p (by exact g_len_view rfl rfl (by exact List.length_map _)) rfl ?_
  refine AL.p (by exact mv1 rfl) rfl ?_
  refine AL.p (by exact g_len_view rfl rfl (by exact List.length_map _)) rfl ?_
  refine AL.p (by exact g_cmp rfl rfl rfl) rfl ?_
  refine AL.p (by exact mv1 rfl) rfl ?_
  refine AL.caseG rfl rfl (fun h0 => ?_) (fun h0 => ?_)
  · refine AL.not rfl rfl rfl rfl rfl ?_
    refine AL.not rfl rfl rfl rfl rfl ?_
    refine AL.not rfl rfl rfl rfl rfl ?_
    refine AL.not rfl rfl rfl rfl rfl ?_
    refine AL.not rfl rfl rfl rfl rfl ?_
    refine AL.not rfl rfl rfl rfl rfl ?_
    refine AL.notU rfl rfl rfl ?_
    refine AL.notU rfl rfl rfl ?_
    refine AL.notU rfl rfl rfl ?_
    refine AL.not rfl rfl rfl rfl rfl ?_
    refine AL.p (by exact g_pickT (r := .d _) rfl rfl) rfl ?_
    refine AL.p (by exact as1 rfl) rfl ?_
    refine AL.nil ?_
    refine th_n ?_
    refine AC.condT rfl ?_
    refine AC.seq ?_
    refine AC.region ?_
    refine AL.p (by exact as1 rfl) rfl ?_
    refine AL.nil ?_
    refine th_n ?_
    refine AC.ret ?_
    refine ib_r ?_
    refine th_r ?_
    refine bq_r ?_
    exact ret1 rfl (by rw [hJ, decide_eq_true h0]; rfl)
  · refine AL.yes rfl rfl rfl ?_
    refine AL.p (by exact mv1 rfl) rfl ?_
    refine AL.yes rfl rfl rfl ?_
    refine AL.p (by exact g_len_view rfl rfl (by exact List.length_map _)) rfl ?_
    refine AL.yes rfl rfl rfl ?_
    refine AL.p (by exact mv1 rfl) rfl ?_
    refine AL.yes rfl rfl rfl ?_
    refine AL.p (by exact g_len_view rfl rfl (by exact List.length_map _)) rfl ?_
    refine AL.yes rfl rfl rfl ?_
    refine AL.p (by exact g_cmp rfl rfl rfl) rfl ?_
    refine AL.yes rfl rfl rfl ?_
    refine AL.p (by exact mv1 rfl) rfl ?_
    refine AL.caseG rfl rfl (fun h1 => ?_) (fun h1 => ?_)
    · refine AL.yes rfl rfl rfl ?_
      refine AL.p (by exact mv1 rfl) rfl ?_
      refine AL.yes rfl rfl rfl ?_
      refine AL.p (by exact mv1 rfl) rfl ?_
      refine AL.yes rfl rfl rfl ?_
      refine AL.q (by exact h_pure en_l7Ahead rfl rfl (by repeat (first | exact rfl | exact DLead.same | refine ⟨_, _, rfl, ?_, ?_⟩)) hA rfl) rfl ?_
      refine AL.yes rfl rfl rfl ?_
      refine AL.p (by exact g_pickT (r := .d _) rfl rfl) rfl ?_
      refine AL.p (by exact g_pickF (r := .d _) rfl rfl) rfl ?_
      refine AL.p (by exact as1 rfl) rfl ?_
      refine AL.nil ?_
      refine th_n ?_
      refine AC.condB rfl (fun h2 => ?_) (fun h2 => ?_)
      · refine AC.seq ?_
        refine AC.region ?_
        refine AL.p (by exact as1 rfl) rfl ?_
        refine AL.nil ?_
        refine th_n ?_
        refine AC.ret ?_
        refine ib_r ?_
        refine th_r ?_
        refine bq_r ?_
        exact ret1 rfl (by rw [hJ, decide_eq_false h0, decide_eq_true h1, h2]; rfl)
      · refine AC.seq ?_
        refine AC.region ?_
        refine AL.p (by exact mv1 rfl) rfl ?_
        refine AL.p (by exact mv1 rfl) rfl ?_
        refine AL.q (by exact h_pure en_l1Same rfl rfl (by repeat (first | exact rfl | exact DLead.same | refine ⟨_, _, rfl, ?_, ?_⟩)) hS rfl) rfl ?_
        refine AL.p (by exact as1 rfl) rfl ?_
        refine AL.nil ?_
        refine th_n ?_
        refine AC.condB rfl (fun h3 => ?_) (fun h3 => ?_)
        · refine AC.seq ?_
          refine AC.region ?_
          refine AL.p (by exact as1 rfl) rfl ?_
          refine AL.nil ?_
          refine th_n ?_
          refine AC.ret ?_
          refine ib_r ?_
          refine th_r ?_
          refine bq_r ?_
          exact ret1 rfl (by rw [hJ, decide_eq_false h0, decide_eq_true h1, h2, h3]; rfl)
        · refine AC.skip ?_
          refine ib_n ?_
          refine th_n ?_
          refine AC.seq ?_
          refine AC.region ?_
          refine AL.p (by exact as1 rfl) rfl ?_
          refine AL.nil ?_
          refine th_n ?_
          refine AC.ret ?_
          refine bq_r ?_
          exact ret1 rfl (by rw [hJ, decide_eq_false h0, decide_eq_true h1, h2, h3]; rfl)
    · refine AL.not rfl rfl rfl rfl rfl ?_
      refine AL.not rfl rfl rfl rfl rfl ?_
      refine AL.not rfl rfl rfl rfl rfl ?_
      refine AL.yes rfl rfl rfl ?_
      refine AL.p (by exact g_pickF (r := .d _) rfl rfl) rfl ?_
      refine AL.p (by exact g_pickF (r := .d _) rfl rfl) rfl ?_
      refine AL.p (by exact as1 rfl) rfl ?_
      refine AL.nil ?_
      refine th_n ?_
      refine AC.condF rfl ?_
      refine AC.seq ?_
      refine AC.region ?_
      refine AL.p (by exact mv1 rfl) rfl ?_
      refine AL.p (by exact mv1 rfl) rfl ?_
      refine AL.q (by exact h_pure en_l1Same rfl rfl (by repeat (first | exact rfl | exact DLead.same | refine ⟨_, _, rfl, ?_, ?_⟩)) hS rfl) rfl ?_
      refine AL.p (by exact as1 rfl) rfl ?_
      refine AL.nil ?_
      refine th_n ?_
      refine AC.condB rfl (fun h2 => ?_) (fun h2 => ?_)
      · refine AC.seq ?_
        refine AC.region ?_
        refine AL.p (by exact as1 rfl) rfl ?_
        refine AL.nil ?_
        refine th_n ?_
        refine AC.ret ?_
        refine ib_r ?_
        refine th_r ?_
        refine bq_r ?_
        exact ret1 rfl (by rw [hJ, decide_eq_false h0, decide_eq_false h1, h2]; rfl)
      · refine AC.skip ?_
        refine ib_n ?_
        refine th_n ?_
        refine AC.seq ?_
        refine AC.region ?_
        refine AL.p (by exact as1 rfl) rfl ?_
        refine AL.nil ?_
        refine th_n ?_
        refine AC.ret ?_
        refine bq_r ?_
        exact ret1 rfl (by rw [hJ, decide_eq_false h0, decide_eq_false h1, h2]; rfl)
theorem en_l8Compare : Enters Tryz.prog 64 := enters_of Tryz.func64 rfl rfl
theorem isNaNInt_spec (a : Int) : ASpec Tryz.prog 181 [aI a] [] (Pure1 (aT false)) := by
  refine ASpec.of Tryz.func181 rfl rfl fun C hC => ?_
  refine AC.seq ?_
  refine AC.region ?_
  refine AL.p (by exact as1 rfl) rfl ?_
  refine AL.nil ?_
  refine th_n ?_
  refine AC.seq ?_
  refine AC.region ?_
  refine AL.p (by exact mv1 rfl) rfl ?_
  refine AL.p (by exact mv1 rfl) rfl ?_
  refine AL.p (by exact g_cmp rfl rfl rfl) rfl ?_
  refine AL.p (by exact as1 rfl) rfl ?_
  refine AL.nil ?_
  refine th_n ?_
  refine AC.ret ?_
  refine bq_r ?_
  exact ret1 rfl (by simp)
theorem en_isNaNInt : Enters Tryz.prog 181 := enters_of Tryz.func181 rfl rfl
def cmp1 (a b : Int) : Int := if a < b then -1 else if b < a then 1 else 0
theorem cmpInt_spec (a b : Int) : ASpec Tryz.prog 166 [aI a, aI b] [] (Pure1 (aI (cmp1 a b))) := by
  refine ASpec.of Tryz.func166 rfl rfl fun C hC => ?_
  refine AC.seq ?_
  refine AC.region ?_
  refine AL.p (by exact as1 rfl) rfl ?_
  refine AL.nil ?_
  refine th_n ?_
  refine AC.seq ?_
  refine AC.region ?_
  refine AL.p (by exact mv1 rfl) rfl ?_
  refine AL.q (by exact h_pure en_isNaNInt rfl rfl (by repeat (first | exact rfl | exact DLead.same | refine ⟨_, _, rfl, ?_, ?_⟩)) (isNaNInt_spec _) rfl) rfl ?_
  refine AL.p (by exact as1 rfl) rfl ?_
  refine AL.nil ?_
  refine th_n ?_
  refine AC.seq ?_
  refine AC.region ?_
  refine AL.p (by exact mv1 rfl) rfl ?_
  refine AL.q (by exact h_pure en_isNaNInt rfl rfl (by repeat (first | exact rfl | exact DLead.same | refine ⟨_, _, rfl, ?_, ?_⟩)) (isNaNInt_spec _) rfl) rfl ?_
  refine AL.p (by exact as1 rfl) rfl ?_
  refine AL.nil ?_
  refine th_n ?_
  refine AC.seq ?_
  refine AC.seq ?_
  refine AC.region ?_
  refine AL.p (by exact mv1 rfl) rfl ?_
  refine AL.nil ?_
  refine th_n ?_
  refine AC.condB rfl (fun h0 => ?_) (fun h0 => ?_)
  · refine AC.seq ?_
    refine AC.seq ?_
    exact absurd h0 (by decide)
  · refine AC.skip ?_
    refine th_n ?_
    refine AC.seq ?_
    refine AC.seq ?_
    refine AC.region ?_
    refine AL.p (by exact mv1 rfl) rfl ?_
    refine AL.nil ?_
    refine th_n ?_
    refine AC.condB rfl (fun h1 => ?_) (fun h1 => ?_)
    · refine AC.seq ?_
      exact absurd h1 (by decide)
    · refine AC.skip ?_
      refine th_n ?_
      refine AC.seq ?_
      refine AC.seq ?_
      refine AC.region ?_
      refine AL.p (by exact mv1 rfl) rfl ?_
      refine AL.p (by exact mv1 rfl) rfl ?_
      refine AL.p (by exact g_cmp rfl rfl rfl) rfl ?_
      refine AL.nil ?_
      refine th_n ?_
      refine AC.condD rfl (fun h2 => ?_) (fun h2 => ?_)
      · refine AC.seq ?_
        refine AC.region ?_
        refine AL.p (by exact as1 rfl) rfl ?_
        refine AL.nil ?_
        refine th_n ?_
        refine AC.ret ?_
        refine th_r ?_
        refine bq_r ?_
        exact ret1 rfl (by rw [cmp1, if_pos h2])
      · refine AC.skip ?_
        refine th_n ?_
        refine AC.seq ?_
        refine AC.seq ?_
        refine AC.region ?_
        refine AL.p (by exact mv1 rfl) rfl ?_
        refine AL.p (by exact mv1 rfl) rfl ?_
        refine AL.p (by exact g_cmp rfl rfl rfl) rfl ?_
        refine AL.nil ?_
        refine th_n ?_
        refine AC.condD rfl (fun h3 => ?_) (fun h3 => ?_)
        · refine AC.seq ?_
          refine AC.region ?_
          refine AL.p (by exact as1 rfl) rfl ?_
          refine AL.nil ?_
          refine th_n ?_
          refine AC.ret ?_
          refine th_r ?_
          refine bq_r ?_
          exact ret1 rfl (by rw [cmp1, if_neg h2, if_pos h3])
        · refine AC.skip ?_
          refine th_n ?_
          refine AC.seq ?_
          refine AC.region ?_
          refine AL.p (by exact as1 rfl) rfl ?_
          refine AL.nil ?_
          refine th_n ?_
          refine AC.ret ?_
          refine bq_r ?_
          exact ret1 rfl (by rw [cmp1, if_neg h2, if_neg h3])
theorem en_cmpInt : Enters Tryz.prog 166 := enters_of Tryz.func166 rfl rfl
theorem lex_at : ∀ {x y : List Int} {k : Nat}, (∀ i, i < k → x[i]? = y[i]?) → k ≤ x.length → k ≤ y.length → lexI x y = lexI (x.drop k) (y.drop k)
  | x, y, 0, _, _, _ => by simp
  | [], _, k + 1, _, h, _ => by simp at h
  | _ :: _, [], k + 1, _, _, h => by simp at h
  | a :: x, b :: y, k + 1, h, hx, hy => by
    have h0 := h 0 (by omega)
    simp only [List.getElem?_cons_zero, Option.some.injEq] at h0
    subst h0
    rw [lexI, if_neg (Int.lt_irrefl _), if_neg (Int.lt_irrefl _), List.drop_succ_cons, List.drop_succ_cons]
    exact lex_at (fun i hi => by have := h (i + 1) (by omega); simpa using this) (by simpa using hx) (by simpa using hy)
theorem lex_ne {x y : List Int} {k : Nat} (h : ∀ i, i < k → x[i]? = y[i]?) (hx : k < x.length) (hy : k < y.length) (hne : ¬ cmp1 x[k] y[k] = 0) : lexI x y = cmp1 x[k] y[k] := by
  rw [lex_at h (by omega) (by omega), List.drop_eq_getElem_cons hx, List.drop_eq_getElem_cons hy, lexI]
  unfold cmp1 at hne ⊢
  split
  · rfl
  · split
    · rfl
    · rename_i h1 h2; rw [if_neg h1, if_neg h2] at hne; exact absurd rfl hne
theorem cmp1_eq {a b : Int} (h : cmp1 a b = 0) : a = b := by
  unfold cmp1 at h
  split at h
  · omega
  · split at h
    · omega
    · omega
theorem lex_long {x y : List Int} {k : Nat} (h : ∀ i, i < k → x[i]? = y[i]?) (hx : k < x.length) (hky : k ≤ y.length) (hy : y.length ≤ k) : lexI x y = 1 := by
  rw [lex_at h (by omega) hky, List.drop_eq_getElem_cons hx, List.drop_eq_nil_of_le hy, lexI]
theorem lex_short {x y : List Int} {k : Nat} (h : ∀ i, i < k → x[i]? = y[i]?) (hk : x.length ≤ k) (hkx : k ≤ x.length) (hky : k ≤ y.length) (hy : (x.length : Int) < y.length) : lexI x y = -1 := by
  rw [lex_at h hkx hky, List.drop_eq_nil_of_le hk, List.drop_eq_getElem_cons (by omega), lexI]
theorem lex_same {x y : List Int} {k : Nat} (h : ∀ i, i < k → x[i]? = y[i]?) (hk : x.length ≤ k) (hkx : k ≤ x.length) (hky : k ≤ y.length) (hy : ¬ (x.length : Int) < y.length) : lexI x y = 0 := by
  rw [lex_at h hkx hky, List.drop_eq_nil_of_le hk, List.drop_eq_nil_of_le (by omega), lexI]
set_option maxHeartbeats 2000000 in
theorem slCompare_spec (x y : List Int) (hx : x.length ≤ 1000000) (hy : y.length ≤ 1000000) : ASpec Tryz.prog 143 [.d (vI x), .d (vI y)] [] (Pure1 (aI (lexI x y))) := by
  refine ASpec.of Tryz.func143 rfl rfl fun C hC => ?_
  refine AC.seq ?_
  refine AC.region ?_
  refine AL.p (by exact as1 rfl) rfl ?_
  refine AL.nil ?_
  refine th_n ?_
  refine AC.seq ?_
  refine AC.seq ?_
  refine AC.region ?_
  refine AL.p (by exact mv1 rfl) rfl ?_
  refine AL.p (by exact g_len_view rfl rfl (by exact List.length_map _)) rfl ?_
  refine AL.p (by exact mv1 rfl) rfl ?_
  refine AL.nil ?_
  refine th_n ?_
  refine AC.block ?_
  refine AC.loop (ι := Nat) (fun k => ⟨36, 8, [(0, .d (vI x)), (1, .d (vI y)), (9, .d (vI x)), (10, aI x.length), (11, aI k)], []⟩) (fun k => k ≤ x.length ∧ k ≤ y.length ∧ ∀ i, i < k → x[i]? = y[i]?) (fun k => x.length - k) (0) ?_ (⟨Nat.zero_le _, Nat.zero_le _, fun i hi => by omega⟩) ?_
  · refine Weak.ren _ [] hC rfl ?_ ?_ rfl rfl rfl <;> repeat (first | exact True.intro | refine And.intro ?_ ?_ | exact DLead.same)
  · intro k ⟨hk, hky, hall⟩
    refine AC.seq ?_
    refine AC.region ?_
    refine AL.p (by exact g_cmp rfl rfl rfl) rfl ?_
    refine AL.nil ?_
    refine th_n ?_
    refine AC.seq ?_
    refine AC.condD rfl (fun h0 => ?_) (fun h0 => ?_)
    · refine AC.skip ?_
      refine th_n ?_
      refine AC.seq ?_
      refine AC.block ?_
      refine AC.seq ?_
      have hkx1 : k < x.length := by omega
      have hgx := ints_at hkx1
      refine AC.region ?_
      refine AL.p (by exact mv1 rfl) rfl ?_
      refine AL.p (by exact g_ia_view rfl rfl rfl rfl rfl (by rfl) (by assumption)) rfl ?_
      refine AL.p (by exact g_load_ref rfl rfl rfl) rfl ?_
      refine AL.p (by exact as1 rfl) rfl ?_
      refine AL.p (by exact as1 rfl) rfl ?_
      refine AL.nil ?_
      refine th_n ?_
      refine AC.seq ?_
      refine AC.seq ?_
      refine AC.region ?_
      refine AL.p (by exact mv1 rfl) rfl ?_
      refine AL.p (by exact mv1 rfl) rfl ?_
      refine AL.p (by exact g_len_view rfl rfl (by exact List.length_map _)) rfl ?_
      refine AL.p (by exact g_cmp rfl rfl rfl) rfl ?_
      refine AL.nil ?_
      refine th_n ?_
      refine AC.condD rfl (fun h1 => ?_) (fun h1 => ?_)
      · refine AC.seq ?_
        refine AC.region ?_
        refine AL.p (by exact as1 rfl) rfl ?_
        refine AL.nil ?_
        refine th_n ?_
        refine AC.ret ?_
        refine th_r ?_
        refine ib_r ?_
        refine th_r ?_
        refine th_r ?_
        refine ib_r ?_
        refine th_r ?_
        refine bq_r ?_
        exact ret1 rfl (by rw [lex_long hall hkx1 hky (by omega)])
      · refine AC.skip ?_
        refine th_n ?_
        refine AC.seq ?_
        have hky1 : k < y.length := by omega
        have hgy := ints_at hky1
        have hC1 := cmpInt_spec x[k] y[k]
        refine AC.region ?_
        refine AL.p (by exact mv1 rfl) rfl ?_
        refine AL.p (by exact mv1 rfl) rfl ?_
        refine AL.p (by exact g_ia_view rfl rfl rfl rfl rfl (by rfl) (by assumption)) rfl ?_
        refine AL.p (by exact g_load_ref rfl rfl rfl) rfl ?_
        refine AL.p (by exact as1 rfl) rfl ?_
        refine AL.nil ?_
        refine th_n ?_
        refine AC.seq ?_
        refine AC.region ?_
        refine AL.p (by exact mv1 rfl) rfl ?_
        refine AL.p (by exact mv1 rfl) rfl ?_
        refine AL.q (by exact h_pure en_cmpInt rfl rfl (by repeat (first | exact rfl | exact DLead.same | refine ⟨_, _, rfl, ?_, ?_⟩)) hC1 rfl) rfl ?_
        refine AL.p (by exact as1 rfl) rfl ?_
        refine AL.nil ?_
        refine th_n ?_
        refine AC.seq ?_
        refine AC.region ?_
        refine AL.p (by exact mv1 rfl) rfl ?_
        refine AL.p (by exact g_cmp rfl rfl rfl) rfl ?_
        refine AL.nil ?_
        refine th_n ?_
        refine AC.condND rfl (fun h2 => ?_) (fun h2 => ?_)
        · refine AC.seq ?_
          refine AC.region ?_
          refine AL.p (by exact mv1 rfl) rfl ?_
          refine AL.p (by exact as1 rfl) rfl ?_
          refine AL.nil ?_
          refine th_n ?_
          refine AC.ret ?_
          refine ib_r ?_
          refine th_r ?_
          refine th_r ?_
          refine ib_r ?_
          refine th_r ?_
          refine bq_r ?_
          exact ret1 rfl (by rw [lex_ne hall hkx1 hky1 h2])
        · refine AC.skip ?_
          refine ib_n ?_
          refine th_n ?_
          refine AC.region ?_
          refine AL.p (by exact g_arith rfl rfl rfl (by exact wrap_i64 (by omega))) rfl ?_
          refine AL.p (by exact mv1 rfl) rfl ?_
          refine AL.nil ?_
          refine th_n ?_
          exact ⟨k + 1, ⟨by omega, by omega, eq_step hall hkx1 hky1 (cmp1_eq h2)⟩, by omega, Weak.ren _ [] hC rfl (by repeat (first | exact True.intro | refine And.intro ?_ ?_ | exact DLead.same)) (by repeat (exact True.intro)) rfl rfl rfl⟩
    · refine AC.exit ?_
      refine th_e ?_
      refine th_e ?_
      refine ib_y ?_
      refine th_n ?_
      refine AC.seq ?_
      refine AC.seq ?_
      refine AC.region ?_
      refine AL.p (by exact mv1 rfl) rfl ?_
      refine AL.p (by exact g_len_view rfl rfl (by exact List.length_map _)) rfl ?_
      refine AL.p (by exact mv1 rfl) rfl ?_
      refine AL.p (by exact g_len_view rfl rfl (by exact List.length_map _)) rfl ?_
      refine AL.p (by exact g_cmp rfl rfl rfl) rfl ?_
      refine AL.nil ?_
      refine th_n ?_
      refine AC.condD rfl (fun h1 => ?_) (fun h1 => ?_)
      · refine AC.seq ?_
        refine AC.region ?_
        refine AL.p (by exact as1 rfl) rfl ?_
        refine AL.nil ?_
        refine th_n ?_
        refine AC.ret ?_
        refine th_r ?_
        refine bq_r ?_
        exact ret1 rfl (by rw [lex_short hall (by omega) hk hky h1])
      · refine AC.skip ?_
        refine th_n ?_
        refine AC.seq ?_
        refine AC.region ?_
        refine AL.p (by exact as1 rfl) rfl ?_
        refine AL.nil ?_
        refine th_n ?_
        refine AC.ret ?_
        refine bq_r ?_
        exact ret1 rfl (by rw [lex_same hall (by omega) hk hky h1])
theorem en_slCompare : Enters Tryz.prog 143 := enters_of Tryz.func143 rfl rfl
theorem compSizes_spec (x y : List Int) (hx : x.length ≤ 1000000) (hy : y.length ≤ 1000000) : ASpec Tryz.prog 106 [.d (vI x), .d (vI y)] [] (Pure1 (aI (sizI x y))) := by
  have hC1 := slCompare_spec x y hx hy
  refine ASpec.of Tryz.func106 rfl rfl fun C hC => ?_
  refine AC.seq ?_
  refine AC.region ?_
  refine AL.p (by exact as1 rfl) rfl ?_
  refine AL.nil ?_
  refine th_n ?_
  refine AC.seq ?_
  refine AC.seq ?_
  refine AC.region ?_
  refine AL.p (by exact mv1 rfl) rfl ?_
  refine AL.p (by exact g_len_view rfl rfl (by exact List.length_map _)) rfl ?_
  refine AL.p (by exact mv1 rfl) rfl ?_
  refine AL.p (by exact g_len_view rfl rfl (by exact List.length_map _)) rfl ?_
  refine AL.p (by exact g_cmp rfl rfl rfl) rfl ?_
  refine AL.nil ?_
  refine th_n ?_
  refine AC.condND rfl (fun h0 => ?_) (fun h0 => ?_)
  · refine AC.seq ?_
    refine AC.seq ?_
    refine AC.region ?_
    refine AL.p (by exact mv1 rfl) rfl ?_
    refine AL.p (by exact g_len_view rfl rfl (by exact List.length_map _)) rfl ?_
    refine AL.p (by exact mv1 rfl) rfl ?_
    refine AL.p (by exact g_len_view rfl rfl (by exact List.length_map _)) rfl ?_
    refine AL.p (by exact g_cmp rfl rfl rfl) rfl ?_
    refine AL.nil ?_
    refine th_n ?_
    refine AC.condD rfl (fun h1 => ?_) (fun h1 => ?_)
    · refine AC.seq ?_
      refine AC.region ?_
      refine AL.p (by exact as1 rfl) rfl ?_
      refine AL.nil ?_
      refine th_n ?_
      refine AC.ret ?_
      refine th_r ?_
      refine th_r ?_
      refine bq_r ?_
      exact ret1 rfl (by rw [sizI, if_pos (by omega)])
    · refine AC.skip ?_
      refine th_n ?_
      refine AC.seq ?_
      refine AC.region ?_
      refine AL.p (by exact as1 rfl) rfl ?_
      refine AL.nil ?_
      refine th_n ?_
      refine AC.ret ?_
      refine th_r ?_
      refine bq_r ?_
      exact ret1 rfl (by rw [sizI, if_neg (by omega), if_pos (by omega)])
  · refine AC.skip ?_
    refine th_n ?_
    refine AC.seq ?_
    refine AC.region ?_
    refine AL.p (by exact mv1 rfl) rfl ?_
    refine AL.p (by exact mv1 rfl) rfl ?_
    refine AL.q (by exact h_pure en_slCompare rfl rfl (by repeat (first | exact rfl | exact DLead.same | refine ⟨_, _, rfl, ?_, ?_⟩)) hC1 rfl) rfl ?_
    refine AL.p (by exact as1 rfl) rfl ?_
    refine AL.nil ?_
    refine th_n ?_
    refine AC.ret ?_
    refine bq_r ?_
    exact ret1 rfl (by rw [sizI, if_neg (by omega), if_neg (by omega)])
theorem en_compSizes : Enters Tryz.prog 106 := enters_of Tryz.func106 rfl rfl
end Go.Proofs.YtlpafiiaminjkaaGreat

set_option linter.all false
set_option maxRecDepth 20000
namespace Go.Proofs.YtlpafiiaminjkaaGreat
open Go.RowKit

def inE (u : Unf) (x : Int) : Bool := decide (0 ≤ x) && decide (x ≤ (u.es.length : Int) - 1)
theorem inE_iff {u : Unf} {x : Int} (h : inE u x = true) : 0 ≤ x ∧ x < u.es.length := by unfold inE at h; rw [Bool.and_eq_true, decide_eq_true_eq, decide_eq_true_eq] at h; omega
def evB (N : Net) (m : List UInt8) (u : Unf) (x y : Int) : Bool := goodU N m u && (inE u x && inE u y)
end Go.Proofs.YtlpafiiaminjkaaGreat

set_option linter.all false
set_option maxRecDepth 20000
namespace Go.Proofs.YtlpafiiaminjkaaGreat
open Go.RowKit

set_option maxHeartbeats 2000000 in
theorem brTransOf_spec (N : Net) (u : Unf) (L A : List ES) (s : ES) (hw : WF u) (hs : subU s u.es.length) : ASpec Tryz.prog 107 [.d (.ref (brD N u L A)), aU s] [] (Pure1 (.d (vI (sortI (evTs u (listI s)))))) := by
  have hel := hw.e
  have hE := esList_spec s
  have hpin := listI_sub hs
  have hpl := listI_len s
  obtain ⟨p, hp⟩ : ∃ p, p = listI s := ⟨_, rfl⟩
  rw [← hp] at hE hpin hpl ⊢
  refine ASpec.of Tryz.func107 rfl rfl fun C hC => ?_
  refine AC.seq ?_
  refine AC.region ?_
  refine AL.p (by exact as1 rfl) rfl ?_
  refine AL.nil ?_
  refine th_n ?_
  refine AC.seq ?_
  refine AC.region ?_
  refine AL.q (by exact h_lit rfl rfl rfl rfl rfl rfl rfl rfl) rfl ?_
  refine AL.p (by exact as2 rfl) rfl ?_
  refine AL.nil ?_
  refine th_n ?_
  refine AC.seq ?_
  refine AC.seq ?_
  refine AC.region ?_
  refine AL.p (by exact mv1 rfl) rfl ?_
  refine AL.q (by exact h_pure en_esList rfl rfl (by repeat (first | exact rfl | exact DLead.same | refine ⟨_, _, rfl, ?_, ?_⟩)) hE rfl) rfl ?_
  refine AL.p (by exact g_len_view rfl rfl (by exact List.length_map _)) rfl ?_
  refine AL.p (by exact mv1 rfl) rfl ?_
  refine AL.nil ?_
  refine th_n ?_
  refine AC.block ?_
  refine AC.loop (ι := Nat) (fun k => ⟨32, 108, [(0, .d (.ref (brD N u L A))), (5, .own 100 k), (10, .d (vI p)), (11, aI p.length), (12, aI k)], [(100, some (.arr 3 1 (ints (evTs u (p.take k)))))]⟩) (fun k => k ≤ p.length) (fun k => p.length - k) (0) ?_ (Nat.zero_le _) ?_
  · exact Weak.ren _ [(100, 0)] hC rfl (by repeat (first | exact True.intro | refine And.intro ?_ ?_ | exact DLead.same | exact rfl | refine ⟨_, rfl, ?_⟩)) (by repeat (first | exact True.intro | refine And.intro ?_ ?_ | exact rfl | refine ⟨_, _, rfl, rfl, ?_⟩)) rfl rfl rfl
  · intro k hk
    refine AC.seq ?_
    refine AC.region ?_
    refine AL.p (by exact g_cmp rfl rfl rfl) rfl ?_
    refine AL.nil ?_
    refine th_n ?_
    refine AC.seq ?_
    refine AC.condD rfl (fun h0 => ?_) (fun h0 => ?_)
    · refine AC.skip ?_
      refine th_n ?_
      refine AC.seq ?_
      refine AC.block ?_
      refine AC.seq ?_
      have hk1 : k < p.length := by omega
      have hget := ints_at hk1
      have hi0 := hpin _ (List.getElem_mem hk1)
      obtain ⟨i, hi⟩ : ∃ i : Nat, p[k] = (i : Int) := ⟨p[k].toNat, by omega⟩
      have hil : i < u.es.length := by omega
      have hgete := evsL_get hil
      have htv : evT u p[k] = u.es[i].t := by rw [hi]; exact evT_nat hil
      have htk := evTs_take (u := u) hk1
      rw [htv] at htk
      have htl : (evTs u (p.take k)).length = k := by rw [evTs_len, List.length_take]; omega
      rw [hi] at hget
      refine AC.region ?_
      refine AL.p (by exact g_ia_view rfl rfl rfl rfl rfl (by rfl) (by assumption)) rfl ?_
      refine AL.p (by exact g_load_ref rfl rfl rfl) rfl ?_
      refine AL.p (by exact as1 rfl) rfl ?_
      refine AL.nil ?_
      refine th_n ?_
      refine AC.region ?_
      refine AL.p (by exact mv2 rfl) rfl ?_
      refine AL.p (by exact mv1 rfl) rfl ?_
      refine AL.p (by exact g_nilR rfl) rfl ?_
      refine AL.p (by exact g_fa_ref rfl rfl rfl rfl rfl rfl) rfl ?_
      refine AL.p (by exact g_fa_ref rfl rfl rfl rfl rfl rfl) rfl ?_
      refine AL.p (by exact g_load_ref rfl rfl rfl) rfl ?_
      refine AL.p (by exact mv1 rfl) rfl ?_
      refine AL.p (by exact g_ia_view rfl rfl rfl rfl rfl (by rfl) (by assumption)) rfl ?_
      refine AL.p (by exact g_fa_ref rfl rfl rfl rfl rfl rfl) rfl ?_
      refine AL.p (by exact g_load_ref rfl rfl rfl) rfl ?_
      refine AL.q (by exact h_litF rfl rfl rfl rfl rfl rfl rfl rfl) rfl ?_
      refine AL.q (by exact h_appendI (evTs u (p.take k)) [u.es[i].t] (.own rfl rfl (by rw [ints_len, htl])) (.view rfl) (by rw [List.length_append, htl]; show k + 1 ≤ _; omega) (by simp)) rfl ?_
      refine AL.p (by exact as2 rfl) rfl ?_
      refine AL.nil ?_
      refine ib_n ?_
      refine th_n ?_
      refine AC.region ?_
      refine AL.p (by exact g_arith rfl rfl rfl (by exact wrap_i64 (by omega))) rfl ?_
      refine AL.p (by exact mv1 rfl) rfl ?_
      refine AL.nil ?_
      refine th_n ?_
      have hl5 : (evTs u (p.take k) ++ [u.es[i].t]).length = k + 1 := by rw [List.length_append, htl]; rfl
      exact ⟨k + 1, by omega, by omega, Weak.ren _ [(100, _)] hC rfl (by rw [← hl5]; repeat (first | exact True.intro | refine And.intro ?_ ?_ | exact DLead.same | exact DLead.eqI (by omega) | exact rfl | refine ⟨_, rfl, ?_⟩)) (by rw [htk]; repeat (first | exact True.intro | refine And.intro ?_ ?_ | exact rfl | refine ⟨_, _, rfl, rfl, ?_⟩)) rfl rfl rfl⟩
    · refine AC.exit ?_
      refine th_e ?_
      refine th_e ?_
      refine ib_y ?_
      refine th_n ?_
      refine AC.seq ?_
      have hkk : k = p.length := by omega
      subst hkk
      rw [List.take_length]
      have htl : (evTs u p).length = p.length := evTs_len _ _
      have hSo := slSort_spec (evTs u p) (by omega)
      rw [htl] at hSo
      have hsl : (sortI (evTs u p)).length = p.length := by rw [sortI_len, htl]
      refine AC.region ?_
      refine AL.p (by exact mv2 rfl) rfl ?_
      refine AL.q (by exact h_fun (cs := [100]) en_slSort rfl rfl (by repeat (first | exact rfl | refine ⟨_, _, rfl, ?_, ?_⟩ | refine ⟨_, rfl, ?_⟩)) (by repeat (first | exact True.intro | refine And.intro ?_ ?_ | exact rfl | refine ⟨_, _, rfl, rfl, ?_⟩)) hSo rfl rfl rfl rfl) rfl ?_
      refine AL.nil ?_
      refine th_n ?_
      refine AC.seq ?_
      refine AC.weak (Weak.freeze (i := 5) (els' := ints (sortI (evTs u p))) rfl rfl (by rw [ints_len, hsl]; exact Nat.le_refl _) (List.take_of_length_le (by rw [ints_len, hsl]; exact Nat.le_refl _))) ?_
      refine AC.region ?_
      refine AL.p (by exact mv1 rfl) rfl ?_
      refine AL.p (by exact as1 rfl) rfl ?_
      refine AL.nil ?_
      refine th_n ?_
      refine AC.ret ?_
      refine bq_r ?_
      exact ret1 rfl rfl
theorem en_brTransOf : Enters Tryz.prog 107 := enters_of Tryz.func107 rfl rfl
theorem loc_sub {u : Unf} {L A : List ES} (hT : Tru u L A) {i : Nat} (hi : i < L.length) : subU L[i] u.es.length := hT.w.s _ (List.getElem_mem hi)
theorem loc_list {u : Unf} {L A : List ES} (hT : Tru u L A) {i : Nat} (hi : i < L.length) : listI L[i] = pastI u [(i : Int)] := by
  have hl := hT.w.l
  refine list_past hT.o hT.w.e fun f => ?_
  have := hT.l i (by omega) f
  rw [List.getD_eq_getElem?_getD, List.getElem?_eq_getElem hi] at this
  exact this
set_option maxHeartbeats 2000000 in
theorem brCompare_spec (N : Net) (u : Unf) (L A : List ES) (x y : Int) (hT : Tru u L A) (hx : 0 ≤ x ∧ x < u.es.length) (hy : 0 ≤ y ∧ y < u.es.length) : ASpec Tryz.prog 65 [.d (.ref (brD N u L A)), aI x, aI y] [] (Pure1 (aI (cmpI u x y))) := by
  have hLl := hT.w.l
  have hel := hT.w.e
  obtain ⟨i, rfl⟩ : ∃ i : Nat, x = i := ⟨x.toNat, by omega⟩
  obtain ⟨j, rfl⟩ : ∃ j : Nat, y = j := ⟨y.toNat, by omega⟩
  have hi : i < L.length := by omega
  have hj : j < L.length := by omega
  have hgi := vES_get hi
  have hgj := vES_get hj
  have hF1 := brTransOf_spec N u L A L[i] hT.w.w (loc_sub hT hi)
  have hF2 := brTransOf_spec N u L A L[j] hT.w.w (loc_sub hT hj)
  rw [loc_list hT hi] at hF1
  rw [loc_list hT hj] at hF2
  have hlen : ∀ e, (firedI u e).length ≤ 1000 := fun e => by
    have := flagL_len (pastFl u [e]) u.es.length
    unfold firedI; rw [sortI_len, evTs_len]; unfold pastI; omega
  have hS := compSizes_spec (firedI u (i : Int)) (firedI u (j : Int)) (by have := hlen (i : Int); omega) (by have := hlen (j : Int); omega)
  refine ASpec.of Tryz.func65 rfl rfl fun C hC => ?_
  refine AC.seq ?_
  refine AC.region ?_
  refine AL.p (by exact as1 rfl) rfl ?_
  refine AL.nil ?_
  refine th_n ?_
  refine AC.seq ?_
  refine AC.drawn' mixed_ok [[], [], [1], [1,2], [1,2,3], [], [1,2,3,4,5], [1,2,3,4,5,6], [0,1,2,3,4,5,6,7], [], [], [10], [10,11], [10,11,12], [], [10,11,12,13,14], [10,11,12,13,14,15], [0,1,2,3,4,5,6,7,8,9,10,11,12,13,14,15,16], [0,1,2,3,4,5,6,7,8,9,10,11,12,13,14,15,16,17], [0,1,2,3,4,5,6,7,8,9,10,11,12,13,14,15,16,17,18]] (by decide) ?_
  refine DF.op 0 [] 20 rfl rfl rfl (.free rfl (NOp.of (by exact mv1 rfl))) rfl ?_
  refine DF.op 1 [] 20 rfl rfl rfl (.free rfl (NOp.of (by exact mv1 rfl))) rfl ?_
  refine DF.op 2 [1] 20 rfl rfl rfl (.free rfl (NOp.of (by exact g_nilR rfl))) rfl ?_
  refine DF.op 3 [1,2] 20 rfl rfl rfl (.free rfl (NOp.of (by exact g_fa_ref rfl rfl rfl rfl rfl rfl))) rfl ?_
  refine DF.op 4 [1,2,3] 20 rfl rfl rfl (.free rfl (NOp.of (by exact g_load_ref rfl rfl rfl))) rfl ?_
  refine DF.op 5 [] 20 rfl rfl rfl (.free rfl (NOp.of (by exact mv1 rfl))) rfl ?_
  refine DF.op 6 [1,2,3,4,5] 20 rfl rfl rfl (.free rfl (NOp.of (by exact g_ia_view rfl rfl rfl rfl rfl rfl hgi))) rfl ?_
  refine DF.op 7 [1,2,3,4,5,6] 20 rfl rfl rfl (.free rfl (NOp.of (by exact g_load_ref rfl rfl rfl))) rfl ?_
  refine DF.op 8 [0,1,2,3,4,5,6,7] 20 rfl rfl rfl (.free rfl (by exact h_pure en_brTransOf rfl rfl (by repeat (first | exact rfl | exact DLead.same | refine ⟨_, _, rfl, ?_, ?_⟩)) hF1 rfl)) rfl ?_
  refine DF.op 9 [] 20 rfl rfl rfl (.free rfl (NOp.of (by exact mv1 rfl))) rfl ?_
  refine DF.op 10 [] 20 rfl rfl rfl (.free rfl (NOp.of (by exact mv1 rfl))) rfl ?_
  refine DF.op 11 [10] 20 rfl rfl rfl (.free rfl (NOp.of (by exact g_nilR rfl))) rfl ?_
  refine DF.op 12 [10,11] 20 rfl rfl rfl (.free rfl (NOp.of (by exact g_fa_ref rfl rfl rfl rfl rfl rfl))) rfl ?_
  refine DF.op 13 [10,11,12] 20 rfl rfl rfl (.free rfl (NOp.of (by exact g_load_ref rfl rfl rfl))) rfl ?_
  refine DF.op 14 [] 20 rfl rfl rfl (.free rfl (NOp.of (by exact mv1 rfl))) rfl ?_
  refine DF.op 15 [10,11,12,13,14] 20 rfl rfl rfl (.free rfl (NOp.of (by exact g_ia_view rfl rfl rfl rfl rfl rfl hgj))) rfl ?_
  refine DF.op 16 [10,11,12,13,14,15] 20 rfl rfl rfl (.free rfl (NOp.of (by exact g_load_ref rfl rfl rfl))) rfl ?_
  refine DF.op 17 [0,1,2,3,4,5,6,7,8,9,10,11,12,13,14,15,16] 20 rfl rfl rfl (.free rfl (by exact h_pure en_brTransOf rfl rfl (by repeat (first | exact rfl | exact DLead.same | refine ⟨_, _, rfl, ?_, ?_⟩)) hF2 rfl)) rfl ?_
  refine DF.op 18 [0,1,2,3,4,5,6,7,8,9,10,11,12,13,14,15,16,17] 20 rfl rfl rfl (.free rfl (by exact h_pure en_compSizes rfl rfl (by repeat (first | exact rfl | exact DLead.same | refine ⟨_, _, rfl, ?_, ?_⟩)) hS rfl)) rfl ?_
  refine DF.op 19 [0,1,2,3,4,5,6,7,8,9,10,11,12,13,14,15,16,17,18] 20 rfl rfl rfl (.free rfl (NOp.of (by exact as1 rfl))) rfl ?_
  refine DF.fin (ps := [(0, 1), (0, 2), (0, 3), (0, 4), (0, 5), (0, 6), (0, 7), (0, 9), (0, 10), (0, 11), (0, 12), (0, 13), (0, 14), (0, 15), (0, 16), (1, 0), (1, 5), (1, 9), (1, 10), (1, 11), (1, 12), (1, 13), (1, 14), (1, 15), (1, 16), (2, 0), (2, 5), (2, 9), (2, 10), (2, 11), (2, 12), (2, 13), (2, 14), (2, 15), (2, 16), (3, 0), (3, 5), (3, 9), (3, 10), (3, 11), (3, 12), (3, 13), (3, 14), (3, 15), (3, 16), (4, 0), (4, 5), (4, 9), (4, 10), (4, 11), (4, 12), (4, 13), (4, 14), (4, 15), (4, 16), (5, 0), (5, 1), (5, 2), (5, 3), (5, 4), (5, 9), (5, 10), (5, 11), (5, 12), (5, 13), (5, 14), (5, 15), (5, 16), (6, 0), (6, 9), (6, 10), (6, 11), (6, 12), (6, 13), (6, 14), (6, 15), (6, 16), (7, 0), (7, 9), (7, 10), (7, 11), (7, 12), (7, 13), (7, 14), (7, 15), (7, 16), (8, 9), (8, 10), (8, 11), (8, 12), (8, 13), (8, 14), (8, 15), (8, 16), (9, 0), (9, 1), (9, 2), (9, 3), (9, 4), (9, 5), (9, 6), (9, 7), (9, 8), (9, 10), (9, 11), (9, 12), (9, 13), (9, 14), (9, 15), (9, 16), (10, 0), (10, 1), (10, 2), (10, 3), (10, 4), (10, 5), (10, 6), (10, 7), (10, 8), (10, 9), (10, 14), (11, 0), (11, 1), (11, 2), (11, 3), (11, 4), (11, 5), (11, 6), (11, 7), (11, 8), (11, 9), (11, 14), (12, 0), (12, 1), (12, 2), (12, 3), (12, 4), (12, 5), (12, 6), (12, 7), (12, 8), (12, 9), (12, 14), (13, 0), (13, 1), (13, 2), (13, 3), (13, 4), (13, 5), (13, 6), (13, 7), (13, 8), (13, 9), (13, 14), (14, 0), (14, 1), (14, 2), (14, 3), (14, 4), (14, 5), (14, 6), (14, 7), (14, 8), (14, 9), (14, 10), (14, 11), (14, 12), (14, 13), (15, 0), (15, 1), (15, 2), (15, 3), (15, 4), (15, 5), (15, 6), (15, 7), (15, 8), (15, 9), (16, 0), (16, 1), (16, 2), (16, 3), (16, 4), (16, 5), (16, 6), (16, 7), (16, 8), (16, 9)]) 20 rfl (by decide +kernel) (by decide +kernel) (by rfl) ?_
  refine th_n ?_
  refine AC.ret ?_
  refine bq_r ?_
  exact ret1 rfl rfl
theorem en_brCompare : Enters Tryz.prog 65 := enters_of Tryz.func65 rfl rfl
end Go.Proofs.YtlpafiiaminjkaaGreat

set_option linter.all false
set_option maxRecDepth 20000
namespace Go.Proofs.YtlpafiiaminjkaaGreat
open Go.RowKit

def askB (N : Net) (m : List UInt8) (u : Unf) (e : Int) : Bool := goodU N m u && inE u e
theorem l8Asked_spec (N : Net) (m : List UInt8) (u : Unf) (e : Int) (hB : NetL N) (hm : m.length ≤ 2000000) (hu : UnfL u) : ASpec Tryz.prog 48 [netA N, aS (bstr m), unfA u, aI e] [] (Pure1 (aT (askB N m u e))) := by
  have hG := l7Good_spec N m u hB hm hu
  have hX := l1In_spec e 0 ((u.es.length : Int) - 1)
  have hue := hu.e
  change ASpec Tryz.prog 63 _ _ (Pure1 (aT (inE u e))) at hX
  unfold askB
  obtain ⟨g, hg⟩ : ∃ g, g = goodU N m u := ⟨_, rfl⟩
  obtain ⟨b, hb⟩ : ∃ b, b = inE u e := ⟨_, rfl⟩
  rw [← hg] at hG ⊢
  rw [← hb] at hX ⊢
  refine ASpec.of Tryz.func48 rfl rfl fun C hC => ?_
  refine AC.seq ?_
  refine AC.region ?_
  refine AL.q (by exact h_boxF rfl rfl) rfl ?_
  refine AL.q (by exact h_boxF rfl rfl) rfl ?_
  refine AL.p (by exact as1 rfl) rfl ?_
  refine AL.nil ?_
  refine th_n ?_
  refine AC.seq ?_
  refine AC.region ?_
  refine AL.p (by exact g_load_refN rfl rfl rfl rfl) rfl ?_
  refine AL.p (by exact mv1 rfl) rfl ?_
  refine AL.p (by exact g_load_refN rfl rfl rfl rfl) rfl ?_
  refine AL.q (by exact h_pure en_l7Good rfl rfl (by repeat (first | exact rfl | exact DLead.same | refine ⟨_, _, rfl, ?_, ?_⟩ | refine ⟨_, rfl, ?_⟩)) hG rfl) rfl ?_
  refine AL.p (by exact mv1 rfl) rfl ?_
  refine AL.caseGB rfl rfl (fun h0 => ?_) (fun h0 => ?_)
  · refine AL.yes rfl rfl rfl ?_
    refine AL.p (by exact mv1 rfl) rfl ?_
    refine AL.yes rfl rfl rfl ?_
    refine AL.p (by exact g_fa_ref rfl rfl rfl rfl rfl rfl) rfl ?_
    refine AL.yes rfl rfl rfl ?_
    refine AL.p (by exact g_load_ref rfl rfl rfl) rfl ?_
    refine AL.yes rfl rfl rfl ?_
    refine AL.p (by exact g_len_view rfl rfl (by exact List.length_map _)) rfl ?_
    refine AL.yes rfl rfl rfl ?_
    refine AL.p (by exact g_arith rfl rfl rfl (by exact wrap_i64 (by omega))) rfl ?_
    refine AL.yes rfl rfl rfl ?_
    refine AL.q (by exact h_pure en_l1In rfl rfl (by repeat (first | exact rfl | exact DLead.same | refine ⟨_, _, rfl, ?_, ?_⟩)) hX rfl) rfl ?_
    refine AL.p (by exact g_pickT (r := .d _) rfl rfl) rfl ?_
    refine AL.p (by exact as1 rfl) rfl ?_
    refine AL.nil ?_
    refine th_n ?_
    refine AC.ret ?_
    refine bq_r ?_
    exact ret1 rfl (by rw [h0]; rfl)
  · refine AL.not rfl rfl rfl rfl rfl ?_
    refine AL.not rfl rfl rfl rfl rfl ?_
    refine AL.not rfl rfl rfl rfl rfl ?_
    refine AL.not rfl rfl rfl rfl rfl ?_
    refine AL.not rfl rfl rfl rfl rfl ?_
    refine AL.not rfl rfl rfl rfl rfl ?_
    refine AL.p (by exact g_pickF (r := .d _) rfl rfl) rfl ?_
    refine AL.p (by exact as1 rfl) rfl ?_
    refine AL.nil ?_
    refine th_n ?_
    refine AC.ret ?_
    refine bq_r ?_
    exact ret1 rfl (by rw [h0]; rfl)
theorem en_l8Asked : Enters Tryz.prog 48 := enters_of Tryz.func48 rfl rfl
def hasRes (N : Net) (m : List UInt8) (u : Unf) (es : List Int) : AV → List (Nat × Chunk) → Prop := if (goodU N m u && es.all (inE u)) = true then Fun1 (.tup [.ptr 0 0, aT true]) (brChs N u (locL N m u) (agaA N m u)) else Pure1 (.tup [.dead, aT false])
theorem hasRes_t {N : Net} {m : List UInt8} {u : Unf} {es : List Int} (h : (goodU N m u && es.all (inE u)) = true) : hasRes N m u es = Fun1 (.tup [.ptr 0 0, aT true]) (brChs N u (locL N m u) (agaA N m u)) := if_pos h
theorem hasRes_f {N : Net} {m : List UInt8} {u : Unf} {es : List Int} (h : (goodU N m u && es.all (inE u)) = false) : hasRes N m u es = Pure1 (.tup [.dead, aT false]) := if_neg (by rw [h]; exact Bool.false_ne_true)
theorem all_take {p : Int → Bool} {l : List Int} {k : Nat} (hk : k < l.length) : (l.take (k + 1)).all p = ((l.take k).all p && p l[k]) := by
  rw [List.take_add_one, List.getElem?_eq_getElem hk, List.all_append]; simp
set_option maxHeartbeats 2000000 in
theorem hasEvents_f (N : Net) (m : List UInt8) (u : Unf) (es : List Int) (hB : NetL N) (hm : m.length ≤ 2000000) (hu : UnfL u) (hes : es.length ≤ 1000) (hg : goodU N m u = false) : ASpec Tryz.prog 53 [netA N, aS (bstr m), unfA u, .d (vI es)] [] (hasRes N m u es) := by
  have hS := branchingOf_spec N m u hB hm hu
  have hue := hu.e
  rw [brRes_f hg] at hS
  rw [hasRes_f (by rw [hg]; rfl)]
  refine ASpec.of Tryz.func53 rfl rfl fun C hC => ?_
  refine AC.seq ?_
  refine AC.region ?_
  refine AL.q (by exact h_boxF rfl rfl) rfl ?_
  refine AL.q (by exact h_boxF rfl rfl) rfl ?_
  refine AL.p (by exact as1 rfl) rfl ?_
  refine AL.p (by exact as1 rfl) rfl ?_
  refine AL.nil ?_
  refine th_n ?_
  refine AC.seq ?_
  refine AC.region ?_
  refine AL.p (by exact g_load_refN rfl rfl rfl rfl) rfl ?_
  refine AL.p (by exact mv1 rfl) rfl ?_
  refine AL.p (by exact g_load_refN rfl rfl rfl rfl) rfl ?_
  refine AL.q (by exact h_fun (cs := []) en_branchingOf rfl rfl (by repeat (first | exact rfl | exact DLead.same | refine ⟨_, _, rfl, ?_, ?_⟩ | refine ⟨_, rfl, ?_⟩)) (by repeat (exact True.intro)) hS rfl rfl rfl rfl) rfl ?_
  refine AL.p (by exact mv5 rfl) rfl ?_
  refine AL.p (by exact g_extract (r := .dead) rfl rfl) rfl ?_
  refine AL.p (by exact g_extract (r := .d _) rfl rfl) rfl ?_
  refine AL.p (by exact as9 rfl) rfl ?_
  refine AL.p (by exact as1 rfl) rfl ?_
  refine AL.nil ?_
  refine th_n ?_
  refine AC.seq ?_
  refine AC.seq ?_
  refine AC.region ?_
  refine AL.p (by exact mv1 rfl) rfl ?_
  refine AL.p (by exact g_len_view rfl rfl (by exact List.length_map _)) rfl ?_
  refine AL.p (by exact mv1 rfl) rfl ?_
  refine AL.nil ?_
  refine th_n ?_
  refine AC.block ?_
  refine AC.loop (ι := Nat) (fun k => ⟨39, 108, [(6, .d (.ref (unfD u))), (11, aT false), (21, .d (vI es)), (22, aI es.length), (23, aI k)], []⟩) (fun k => k ≤ es.length) (fun k => es.length - k) (0) ?_ (Nat.zero_le _) ?_
  · exact Weak.ren _ [] hC rfl (by repeat (first | exact True.intro | refine And.intro ?_ ?_ | exact DLead.same)) (by repeat (exact True.intro)) rfl rfl rfl
  · intro k hk
    refine AC.seq ?_
    refine AC.region ?_
    refine AL.p (by exact g_cmp rfl rfl rfl) rfl ?_
    refine AL.nil ?_
    refine th_n ?_
    refine AC.seq ?_
    refine AC.condD rfl (fun h0 => ?_) (fun h0 => ?_)
    · refine AC.skip ?_
      refine th_n ?_
      refine AC.seq ?_
      refine AC.block ?_
      refine AC.seq ?_
      have hk1 : k < es.length := by omega
      have hget := ints_at hk1
      refine AC.region ?_
      refine AL.p (by exact g_ia_view rfl rfl rfl rfl rfl (by rfl) (by assumption)) rfl ?_
      refine AL.p (by exact g_load_ref rfl rfl rfl) rfl ?_
      refine AL.p (by exact as1 rfl) rfl ?_
      refine AL.nil ?_
      refine th_n ?_
      refine AC.region ?_
      refine AL.p (by exact mv1 rfl) rfl ?_
      refine AL.p (by exact mv1 rfl) rfl ?_
      refine AL.caseGB rfl rfl (fun h1 => ?_) (fun h1 => ?_)
      · refine AL.yes rfl rfl rfl ?_
        refine AL.p (by exact mv1 rfl) rfl ?_
        refine AL.yes rfl rfl rfl ?_
        refine AL.p (by exact g_fa_ref rfl rfl rfl rfl rfl rfl) rfl ?_
        refine AL.yes rfl rfl rfl ?_
        refine AL.p (by exact g_load_ref rfl rfl rfl) rfl ?_
        refine AL.yes rfl rfl rfl ?_
        refine AL.p (by exact g_len_view rfl rfl (by exact List.length_map _)) rfl ?_
        refine AL.yes rfl rfl rfl ?_
        refine AL.p (by exact g_arith rfl rfl rfl (by exact wrap_i64 (by omega))) rfl ?_
        refine AL.yes rfl rfl rfl ?_
        refine AL.q (by exact h_pure en_within rfl rfl (by repeat (first | exact rfl | exact DLead.same | refine ⟨_, _, rfl, ?_, ?_⟩)) (within_spec _ _ _) rfl) rfl ?_
        refine AL.p (by exact g_pickT (r := .d _) rfl rfl) rfl ?_
        refine AL.p (by exact as1 rfl) rfl ?_
        refine AL.nil ?_
        refine ib_n ?_
        refine th_n ?_
        refine AC.region ?_
        refine AL.p (by exact g_arith rfl rfl rfl (by exact wrap_i64 (by omega))) rfl ?_
        refine AL.p (by exact mv1 rfl) rfl ?_
        refine AL.nil ?_
        refine th_n ?_
        exact absurd h1 Bool.false_ne_true
      · refine AL.not rfl rfl rfl rfl rfl ?_
        refine AL.not rfl rfl rfl rfl rfl ?_
        refine AL.not rfl rfl rfl rfl rfl ?_
        refine AL.not rfl rfl rfl rfl rfl ?_
        refine AL.not rfl rfl rfl rfl rfl ?_
        refine AL.not rfl rfl rfl rfl rfl ?_
        refine AL.p (by exact g_pickF (r := .d _) rfl rfl) rfl ?_
        refine AL.p (by exact as1 rfl) rfl ?_
        refine AL.nil ?_
        refine ib_n ?_
        refine th_n ?_
        refine AC.region ?_
        refine AL.p (by exact g_arith rfl rfl rfl (by exact wrap_i64 (by omega))) rfl ?_
        refine AL.p (by exact mv1 rfl) rfl ?_
        refine AL.nil ?_
        refine th_n ?_
        exact ⟨k + 1, by omega, by omega, Weak.ren _ [] hC rfl (by repeat (first | exact True.intro | refine And.intro ?_ ?_ | exact DLead.same)) (by repeat (exact True.intro)) rfl rfl rfl⟩
    · refine AC.exit ?_
      refine th_e ?_
      refine th_e ?_
      refine ib_y ?_
      refine th_n ?_
      refine AC.seq ?_
      refine AC.region ?_
      refine AL.p (by exact mv9 rfl) rfl ?_
      refine AL.p (by exact mv1 rfl) rfl ?_
      refine AL.p (by exact as9 rfl) rfl ?_
      refine AL.p (by exact as1 rfl) rfl ?_
      refine AL.nil ?_
      refine th_n ?_
      refine AC.ret ?_
      refine bq_r ?_
      exact ret0 rfl (by repeat (first | exact rfl | exact DLead.same | exact True.intro | refine ⟨_, _, rfl, ?_, ?_⟩ | refine ⟨_, rfl, ?_⟩))
set_option maxHeartbeats 4000000 in
theorem hasEvents_t (N : Net) (m : List UInt8) (u : Unf) (es : List Int) (hB : NetL N) (hm : m.length ≤ 2000000) (hu : UnfL u) (hes : es.length ≤ 1000) (hg : goodU N m u = true) : ASpec Tryz.prog 53 [netA N, aS (bstr m), unfA u, .d (vI es)] [] (hasRes N m u es) := by
  have hS := branchingOf_spec N m u hB hm hu
  have hue := hu.e
  rw [brRes_t hg] at hS
  have hrt := fun h => hasRes_t (N := N) (m := m) (u := u) (es := es) h
  have hrf := fun h => hasRes_f (N := N) (m := m) (u := u) (es := es) h
  rw [hg, Bool.true_and] at hrt hrf
  obtain ⟨L, hL⟩ : ∃ L, L = locL N m u := ⟨_, rfl⟩
  obtain ⟨A, hA⟩ : ∃ A, A = agaA N m u := ⟨_, rfl⟩
  rw [← hL, ← hA] at hS hrt
  refine ASpec.of Tryz.func53 rfl rfl fun C hC => ?_
  refine AC.seq ?_
  refine AC.region ?_
  refine AL.q (by exact h_boxF rfl rfl) rfl ?_
  refine AL.q (by exact h_boxF rfl rfl) rfl ?_
  refine AL.p (by exact as1 rfl) rfl ?_
  refine AL.p (by exact as1 rfl) rfl ?_
  refine AL.nil ?_
  refine th_n ?_
  refine AC.seq ?_
  refine AC.region ?_
  refine AL.p (by exact g_load_refN rfl rfl rfl rfl) rfl ?_
  refine AL.p (by exact mv1 rfl) rfl ?_
  refine AL.p (by exact g_load_refN rfl rfl rfl rfl) rfl ?_
  refine AL.q (by exact h_fun (cs := []) en_branchingOf rfl rfl (by repeat (first | exact rfl | exact DLead.same | refine ⟨_, _, rfl, ?_, ?_⟩ | refine ⟨_, rfl, ?_⟩)) (by repeat (exact True.intro)) hS rfl rfl rfl rfl) rfl ?_
  refine AL.p (by exact mv5 rfl) rfl ?_
  refine AL.p (by exact g_extract (r := .ptr _ _) rfl rfl) rfl ?_
  refine AL.p (by exact g_extract (r := .d _) rfl rfl) rfl ?_
  refine AL.p (by exact as3 rfl) rfl ?_
  refine AL.p (by exact as1 rfl) rfl ?_
  refine AL.nil ?_
  refine th_n ?_
  refine AC.seq ?_
  refine AC.seq ?_
  refine AC.region ?_
  refine AL.p (by exact mv1 rfl) rfl ?_
  refine AL.p (by exact g_len_view rfl rfl (by exact List.length_map _)) rfl ?_
  refine AL.p (by exact mv1 rfl) rfl ?_
  refine AL.nil ?_
  refine th_n ?_
  refine AC.block ?_
  refine AC.loop (ι := Nat) (fun k => ⟨39, 136, [(6, .d (.ref (unfD u))), (10, .ptr 100 0), (11, aT ((es.take k).all (inE u))), (21, .d (vI es)), (22, aI es.length), (23, aI k)], [(100, some (brC N 101 u.cs.length 102 u.es.length 103 L.length 104 A.length)), (101, some (.arr 142 2 (condsL u.cs))), (102, some (.arr 78 2 (evsL u.es))), (103, some (.arr 100 1 (esL L))), (104, some (.arr 100 1 (esL A)))]⟩) (fun k => k ≤ es.length) (fun k => es.length - k) (0) ?_ (Nat.zero_le _) ?_
  · exact Weak.ren _ [(100, _), (101, _), (102, _), (103, _), (104, _)] hC rfl (by repeat (first | exact True.intro | refine And.intro ?_ ?_ | exact DLead.same | exact rfl | refine ⟨_, rfl, ?_⟩)) (by repeat (first | exact True.intro | refine And.intro ?_ ?_ | exact DLead.same | exact rfl | refine ⟨_, _, rfl, rfl, ?_⟩ | refine ⟨_, rfl, ?_⟩ | refine ⟨_, _, rfl, ?_, ?_⟩)) rfl rfl rfl
  · intro k hk
    refine AC.seq ?_
    refine AC.region ?_
    refine AL.p (by exact g_cmp rfl rfl rfl) rfl ?_
    refine AL.nil ?_
    refine th_n ?_
    refine AC.seq ?_
    refine AC.condD rfl (fun h0 => ?_) (fun h0 => ?_)
    · refine AC.skip ?_
      refine th_n ?_
      refine AC.seq ?_
      refine AC.block ?_
      refine AC.seq ?_
      have hk1 : k < es.length := by omega
      have hget := ints_at hk1
      have hat := all_take (p := inE u) hk1
      have hW := within_spec es[k] 0 ((u.es.length : Int) - 1)
      change ASpec Tryz.prog 75 _ _ (Pure1 (aT (inE u es[k]))) at hW
      obtain ⟨b, hb⟩ : ∃ b, b = (es.take k).all (inE u) := ⟨_, rfl⟩
      obtain ⟨b2, hb2⟩ : ∃ b2, b2 = inE u es[k] := ⟨_, rfl⟩
      rw [← hb2] at hW
      rw [← hb, ← hb2] at hat
      rw [← hb]
      refine AC.region ?_
      refine AL.p (by exact g_ia_view rfl rfl rfl rfl rfl (by rfl) (by assumption)) rfl ?_
      refine AL.p (by exact g_load_ref rfl rfl rfl) rfl ?_
      refine AL.p (by exact as1 rfl) rfl ?_
      refine AL.nil ?_
      refine th_n ?_
      refine AC.region ?_
      refine AL.p (by exact mv1 rfl) rfl ?_
      refine AL.p (by exact mv1 rfl) rfl ?_
      refine AL.caseGB rfl rfl (fun h1 => ?_) (fun h1 => ?_)
      · refine AL.yes rfl rfl rfl ?_
        refine AL.p (by exact mv1 rfl) rfl ?_
        refine AL.yes rfl rfl rfl ?_
        refine AL.p (by exact g_fa_ref rfl rfl rfl rfl rfl rfl) rfl ?_
        refine AL.yes rfl rfl rfl ?_
        refine AL.p (by exact g_load_ref rfl rfl rfl) rfl ?_
        refine AL.yes rfl rfl rfl ?_
        refine AL.p (by exact g_len_view rfl rfl (by exact List.length_map _)) rfl ?_
        refine AL.yes rfl rfl rfl ?_
        refine AL.p (by exact g_arith rfl rfl rfl (by exact wrap_i64 (by omega))) rfl ?_
        refine AL.yes rfl rfl rfl ?_
        refine AL.q (by exact h_pure en_within rfl rfl (by repeat (first | exact rfl | exact DLead.same | refine ⟨_, _, rfl, ?_, ?_⟩)) hW rfl) rfl ?_
        refine AL.p (by exact g_pickT (r := .d _) rfl rfl) rfl ?_
        refine AL.p (by exact as1 rfl) rfl ?_
        refine AL.nil ?_
        refine ib_n ?_
        refine th_n ?_
        refine AC.region ?_
        refine AL.p (by exact g_arith rfl rfl rfl (by exact wrap_i64 (by omega))) rfl ?_
        refine AL.p (by exact mv1 rfl) rfl ?_
        refine AL.nil ?_
        refine th_n ?_
        exact ⟨k + 1, by omega, by omega, Weak.ren _ [(100, _), (101, _), (102, _), (103, _), (104, _)] hC rfl (by rw [hat, h1]; repeat (first | exact True.intro | refine And.intro ?_ ?_ | exact DLead.same | exact rfl | refine ⟨_, rfl, ?_⟩)) (by repeat (first | exact True.intro | refine And.intro ?_ ?_ | exact DLead.same | exact rfl | refine ⟨_, _, rfl, rfl, ?_⟩ | refine ⟨_, rfl, ?_⟩ | refine ⟨_, _, rfl, ?_, ?_⟩)) rfl rfl rfl⟩
      · refine AL.not rfl rfl rfl rfl rfl ?_
        refine AL.not rfl rfl rfl rfl rfl ?_
        refine AL.not rfl rfl rfl rfl rfl ?_
        refine AL.not rfl rfl rfl rfl rfl ?_
        refine AL.not rfl rfl rfl rfl rfl ?_
        refine AL.not rfl rfl rfl rfl rfl ?_
        refine AL.p (by exact g_pickF (r := .d _) rfl rfl) rfl ?_
        refine AL.p (by exact as1 rfl) rfl ?_
        refine AL.nil ?_
        refine ib_n ?_
        refine th_n ?_
        refine AC.region ?_
        refine AL.p (by exact g_arith rfl rfl rfl (by exact wrap_i64 (by omega))) rfl ?_
        refine AL.p (by exact mv1 rfl) rfl ?_
        refine AL.nil ?_
        refine th_n ?_
        exact ⟨k + 1, by omega, by omega, Weak.ren _ [(100, _), (101, _), (102, _), (103, _), (104, _)] hC rfl (by rw [hat, h1]; repeat (first | exact True.intro | refine And.intro ?_ ?_ | exact DLead.same | exact rfl | refine ⟨_, rfl, ?_⟩)) (by repeat (first | exact True.intro | refine And.intro ?_ ?_ | exact DLead.same | exact rfl | refine ⟨_, _, rfl, rfl, ?_⟩ | refine ⟨_, rfl, ?_⟩ | refine ⟨_, _, rfl, ?_, ?_⟩)) rfl rfl rfl⟩
    · refine AC.exit ?_
      refine th_e ?_
      refine th_e ?_
      refine ib_y ?_
      refine th_n ?_
      refine AC.seq ?_
      refine AC.region ?_
      refine AL.p (by exact mv3 rfl) rfl ?_
      refine AL.p (by exact mv1 rfl) rfl ?_
      refine AL.p (by exact as3 rfl) rfl ?_
      refine AL.p (by exact as1 rfl) rfl ?_
      refine AL.nil ?_
      refine th_n ?_
      refine AC.ret ?_
      refine bq_r ?_
      have hkk : k = es.length := by omega
      rw [hkk, List.take_length]
      cases hz : es.all (inE u)
      rw [hrf hz]
      exact ret0 rfl (by repeat (first | exact rfl | exact DLead.same | exact True.intro | refine ⟨_, _, rfl, ?_, ?_⟩ | refine ⟨_, rfl, ?_⟩))
      rw [hrt hz]
      exact retN [(0, _), (1, _), (2, _), (3, _), (4, _)] rfl (by repeat (first | exact rfl | exact DLead.same | refine ⟨_, _, rfl, ?_, ?_⟩ | refine ⟨_, rfl, ?_⟩)) (by repeat (first | exact True.intro | refine And.intro ?_ ?_ | exact DLead.same | exact rfl | refine ⟨_, _, rfl, rfl, ?_⟩ | refine ⟨_, rfl, ?_⟩ | refine ⟨_, _, rfl, ?_, ?_⟩)) rfl rfl
theorem en_hasEvents : Enters Tryz.prog 53 := enters_of Tryz.func53 rfl rfl
theorem hasEvents_spec (N : Net) (m : List UInt8) (u : Unf) (es : List Int) (hB : NetL N) (hm : m.length ≤ 2000000) (hu : UnfL u) (hes : es.length ≤ 1000) : ASpec Tryz.prog 53 [netA N, aS (bstr m), unfA u, .d (vI es)] [] (hasRes N m u es) := by
  cases hg : goodU N m u with
  | true => exact hasEvents_t N m u es hB hm hu hes hg
  | false => exact hasEvents_f N m u es hB hm hu hes hg
end Go.Proofs.YtlpafiiaminjkaaGreat

set_option linter.all false
set_option maxRecDepth 20000
namespace Go.Proofs.YtlpafiiaminjkaaGreat
open Go.RowKit

theorem ev_all (N : Net) (m : List UInt8) (u : Unf) (x y : Int) : (goodU N m u && [x, y].all (inE u)) = evB N m u x y := by unfold evB; simp
theorem evB_iff {N : Net} {m : List UInt8} {u : Unf} {x y : Int} (h : evB N m u x y = true) : Good N m u ∧ (0 ≤ x ∧ x < u.es.length) ∧ 0 ≤ y ∧ y < u.es.length := by
  unfold evB at h
  rw [Bool.and_eq_true, Bool.and_eq_true] at h
  exact ⟨goodU_iff h.1, inE_iff h.2.1, inE_iff h.2.2⟩
def cmpR (N : Net) (m : List UInt8) (u : Unf) (x y : Int) : Int := if evB N m u x y = true then cmpI u x y else 0
set_option maxHeartbeats 1000000 in
theorem sCompare_spec (N : Net) (m : List UInt8) (u : Unf) (x y : Int) (hB : NetL N) (hm : m.length ≤ 2000000) (hu : UnfL u) (hx : okI x) (hy : okI y) : ASpec Tryz.prog 22 [netA N, aS (bstr m), unfA u, aI x, aI y] [] (Pure1 (.tup [aI (cmpR N m u x y), aT (evB N m u x y)])) := by
  have hA := l8Asked_spec N m u x hB hm hu
  have hY := l1In_spec y 0 ((u.es.length : Int) - 1)
  have hue := hu.e
  change ASpec Tryz.prog 63 _ _ (Pure1 (aT (inE u y))) at hY
  have hE : evB N m u x y = (askB N m u x && inE u y) := by unfold evB askB; rw [Bool.and_assoc]
  have hR : cmpR N m u x y = if (askB N m u x && inE u y) = true then cmpI u x y else 0 := by rw [← hE]; rfl
  have hi : askB N m u x = true → inE u y = true → Good N m u ∧ (0 ≤ x ∧ x < u.es.length) ∧ 0 ≤ y ∧ y < u.es.length := fun q1 q2 => evB_iff (hE.trans (by rw [q1, q2]; rfl))
  obtain ⟨a, ha⟩ : ∃ a, a = askB N m u x := ⟨_, rfl⟩
  obtain ⟨b, hb⟩ : ∃ b, b = inE u y := ⟨_, rfl⟩
  rw [← ha] at hA hi hE hR
  rw [← hb] at hY hi hE hR
  rw [hE, hR]
  refine ASpec.of Tryz.func22 rfl rfl fun C hC => ?_
  refine AC.seq ?_
  refine AC.region ?_
  refine AL.q (by exact h_boxF rfl rfl) rfl ?_
  refine AL.q (by exact h_boxF rfl rfl) rfl ?_
  refine AL.p (by exact as1 rfl) rfl ?_
  refine AL.p (by exact as1 rfl) rfl ?_
  refine AL.nil ?_
  refine th_n ?_
  refine AC.seq ?_
  refine AC.seq ?_
  refine AC.region ?_
  refine AL.p (by exact g_load_refN rfl rfl rfl rfl) rfl ?_
  refine AL.p (by exact mv1 rfl) rfl ?_
  refine AL.p (by exact g_load_refN rfl rfl rfl rfl) rfl ?_
  refine AL.p (by exact mv1 rfl) rfl ?_
  refine AL.q (by exact h_pure en_l8Asked rfl rfl (by repeat (first | exact rfl | exact DLead.same | refine ⟨_, _, rfl, ?_, ?_⟩ | refine ⟨_, rfl, ?_⟩)) hA rfl) rfl ?_
  refine AL.p (by exact g_not rfl) rfl ?_
  refine AL.p (by exact mv1 rfl) rfl ?_
  refine AL.caseGB rfl rfl (fun h0 => ?_) (fun h0 => ?_)
  · refine AL.not rfl rfl rfl rfl rfl ?_
    refine AL.not rfl rfl rfl rfl rfl ?_
    refine AL.not rfl rfl rfl rfl rfl ?_
    refine AL.not rfl rfl rfl rfl rfl ?_
    refine AL.not rfl rfl rfl rfl rfl ?_
    refine AL.not rfl rfl rfl rfl rfl ?_
    refine AL.not rfl rfl rfl rfl rfl ?_
    refine AL.p (by exact g_pickT (r := .d _) rfl rfl) rfl ?_
    refine AL.nil ?_
    refine th_n ?_
    refine AC.condT rfl ?_
    refine AC.seq ?_
    refine AC.region ?_
    refine AL.p (by exact as1 rfl) rfl ?_
    refine AL.p (by exact as1 rfl) rfl ?_
    refine AL.nil ?_
    refine th_n ?_
    refine AC.ret ?_
    refine th_r ?_
    refine bq_r ?_
    exact ret2 rfl (by simp_all) (by simp_all)
  · refine AL.yes rfl rfl rfl ?_
    refine AL.p (by exact mv1 rfl) rfl ?_
    refine AL.yes rfl rfl rfl ?_
    refine AL.p (by exact g_fa_ref rfl rfl rfl rfl rfl rfl) rfl ?_
    refine AL.yes rfl rfl rfl ?_
    refine AL.p (by exact g_load_ref rfl rfl rfl) rfl ?_
    refine AL.yes rfl rfl rfl ?_
    refine AL.p (by exact g_len_view rfl rfl (by exact List.length_map _)) rfl ?_
    refine AL.yes rfl rfl rfl ?_
    refine AL.p (by exact g_arith rfl rfl rfl (by exact wrap_i64 (by omega))) rfl ?_
    refine AL.yes rfl rfl rfl ?_
    refine AL.q (by exact h_pure en_l1In rfl rfl (by repeat (first | exact rfl | exact DLead.same | refine ⟨_, _, rfl, ?_, ?_⟩)) hY rfl) rfl ?_
    refine AL.yes rfl rfl rfl ?_
    refine AL.p (by exact g_not rfl) rfl ?_
    refine AL.p (by exact g_pickF (r := .d _) rfl rfl) rfl ?_
    refine AL.nil ?_
    refine th_n ?_
    refine AC.condB rfl (fun h1 => ?_) (fun h1 => ?_)
    · refine AC.seq ?_
      refine AC.region ?_
      refine AL.p (by exact as1 rfl) rfl ?_
      refine AL.p (by exact as1 rfl) rfl ?_
      refine AL.nil ?_
      refine th_n ?_
      refine AC.ret ?_
      refine th_r ?_
      refine bq_r ?_
      exact ret2 rfl (by simp_all) (by simp_all)
    · refine AC.skip ?_
      refine th_n ?_
      refine AC.seq ?_
      have q1 := (Bool.not_eq_false' _).mp h0
      have q2 := (Bool.not_eq_false' _).mp h1
      obtain ⟨hG, hx', hy'⟩ := hi q1 q2
      have hL := l8Compare_spec u x y hG.tru.w.w hx' hy'
      obtain ⟨r, hr⟩ : ∃ r, r = cmpI u x y := ⟨_, rfl⟩
      rw [← hr] at hL
      refine AC.region ?_
      refine AL.p (by exact g_load_refN rfl rfl rfl rfl) rfl ?_
      refine AL.p (by exact mv1 rfl) rfl ?_
      refine AL.p (by exact mv1 rfl) rfl ?_
      refine AL.q (by exact h_pure en_l8Compare rfl rfl (by repeat (first | exact rfl | exact DLead.same | refine ⟨_, _, rfl, ?_, ?_⟩ | refine ⟨_, rfl, ?_⟩)) hL rfl) rfl ?_
      refine AL.p (by exact as1 rfl) rfl ?_
      refine AL.p (by exact as1 rfl) rfl ?_
      refine AL.nil ?_
      refine th_n ?_
      refine AC.ret ?_
      refine bq_r ?_
      exact ret2 rfl (by rw [q1, q2, hr]; rfl) (by rw [q1, q2]; rfl)
theorem en_sCompare : Enters Tryz.prog 22 := enters_of Tryz.func22 rfl rfl
theorem iCompare_f (N : Net) (m : List UInt8) (u : Unf) (x y : Int) (hB : NetL N) (hm : m.length ≤ 2000000) (hu : UnfL u) (ha : evB N m u x y = false) : ASpec Tryz.prog 23 [netA N, aS (bstr m), unfA u, aI x, aI y] [] (Pure1 (.tup [aI (cmpR N m u x y), aT (evB N m u x y)])) := by
  have hS := hasEvents_spec N m u [x, y] hB hm hu (by simp)
  rw [hasRes_f ((ev_all N m u x y).trans ha)] at hS
  have hR : cmpR N m u x y = 0 := by unfold cmpR; rw [ha]; rfl
  rw [hR, ha]
  refine ASpec.of Tryz.func23 rfl rfl fun C hC => ?_
  refine AC.seq ?_
  refine AC.region ?_
  refine AL.q (by exact h_boxF rfl rfl) rfl ?_
  refine AL.q (by exact h_boxF rfl rfl) rfl ?_
  refine AL.p (by exact as1 rfl) rfl ?_
  refine AL.p (by exact as1 rfl) rfl ?_
  refine AL.nil ?_
  refine th_n ?_
  refine AC.seq ?_
  refine AC.region ?_
  refine AL.p (by exact g_load_refN rfl rfl rfl rfl) rfl ?_
  refine AL.p (by exact mv1 rfl) rfl ?_
  refine AL.p (by exact g_load_refN rfl rfl rfl rfl) rfl ?_
  refine AL.p (by exact mv1 rfl) rfl ?_
  refine AL.p (by exact mv1 rfl) rfl ?_
  refine AL.q (by exact h_litF rfl rfl rfl rfl rfl rfl rfl rfl) rfl ?_
  refine AL.q (by exact h_fun (cs := []) en_hasEvents rfl rfl (by repeat (first | exact rfl | exact DLead.same | refine ⟨_, _, rfl, ?_, ?_⟩ | refine ⟨_, rfl, ?_⟩)) (by repeat (exact True.intro)) hS rfl rfl rfl rfl) rfl ?_
  refine AL.p (by exact mv5 rfl) rfl ?_
  refine AL.p (by exact g_extract (r := .dead) rfl rfl) rfl ?_
  refine AL.p (by exact g_extract (r := .d _) rfl rfl) rfl ?_
  refine AL.p (by exact as9 rfl) rfl ?_
  refine AL.p (by exact as1 rfl) rfl ?_
  refine AL.nil ?_
  refine th_n ?_
  refine AC.seq ?_
  refine AC.seq ?_
  refine AC.region ?_
  refine AL.p (by exact mv1 rfl) rfl ?_
  refine AL.p (by exact g_not rfl) rfl ?_
  refine AL.nil ?_
  refine th_n ?_
  refine AC.condB rfl (fun h0 => ?_) (fun h0 => ?_)
  · refine AC.seq ?_
    refine AC.region ?_
    refine AL.p (by exact as1 rfl) rfl ?_
    refine AL.p (by exact as1 rfl) rfl ?_
    refine AL.nil ?_
    refine th_n ?_
    refine AC.ret ?_
    refine th_r ?_
    refine bq_r ?_
    exact ret2 rfl rfl rfl
  · refine AC.skip ?_
    refine th_n ?_
    refine AC.seq ?_
    exact absurd h0 (by decide)
set_option maxHeartbeats 1000000 in
theorem iCompare_t (N : Net) (m : List UInt8) (u : Unf) (x y : Int) (hB : NetL N) (hm : m.length ≤ 2000000) (hu : UnfL u) (ha : evB N m u x y = true) : ASpec Tryz.prog 23 [netA N, aS (bstr m), unfA u, aI x, aI y] [] (Pure1 (.tup [aI (cmpR N m u x y), aT (evB N m u x y)])) := by
  have hS := hasEvents_spec N m u [x, y] hB hm hu (by simp)
  rw [hasRes_t ((ev_all N m u x y).trans ha)] at hS
  obtain ⟨hG, hx', hy'⟩ := evB_iff ha
  have hT := hG.tru
  have hR : cmpR N m u x y = cmpI u x y := by unfold cmpR; rw [ha]; rfl
  rw [hR, ha]
  obtain ⟨L, hL⟩ : ∃ L, L = locL N m u := ⟨_, rfl⟩
  obtain ⟨A, hA⟩ : ∃ A, A = agaA N m u := ⟨_, rfl⟩
  rw [← hL, ← hA] at hT hS
  have hLo := brCompare_spec N u L A x y hT hx' hy'
  obtain ⟨r, hr⟩ : ∃ r, r = cmpI u x y := ⟨_, rfl⟩
  rw [← hr] at hLo ⊢
  refine ASpec.of Tryz.func23 rfl rfl fun C hC => ?_
  refine AC.seq ?_
  refine AC.region ?_
  refine AL.q (by exact h_boxF rfl rfl) rfl ?_
  refine AL.q (by exact h_boxF rfl rfl) rfl ?_
  refine AL.p (by exact as1 rfl) rfl ?_
  refine AL.p (by exact as1 rfl) rfl ?_
  refine AL.nil ?_
  refine th_n ?_
  refine AC.seq ?_
  refine AC.region ?_
  refine AL.p (by exact g_load_refN rfl rfl rfl rfl) rfl ?_
  refine AL.p (by exact mv1 rfl) rfl ?_
  refine AL.p (by exact g_load_refN rfl rfl rfl rfl) rfl ?_
  refine AL.p (by exact mv1 rfl) rfl ?_
  refine AL.p (by exact mv1 rfl) rfl ?_
  refine AL.q (by exact h_litF rfl rfl rfl rfl rfl rfl rfl rfl) rfl ?_
  refine AL.q (by exact h_fun (cs := []) en_hasEvents rfl rfl (by repeat (first | exact rfl | exact DLead.same | refine ⟨_, _, rfl, ?_, ?_⟩ | refine ⟨_, rfl, ?_⟩)) (by repeat (exact True.intro)) hS rfl rfl rfl rfl) rfl ?_
  refine AL.p (by exact mv5 rfl) rfl ?_
  refine AL.p (by exact g_extract (r := .ptr _ _) rfl rfl) rfl ?_
  refine AL.p (by exact g_extract (r := .d _) rfl rfl) rfl ?_
  refine AL.p (by exact as3 rfl) rfl ?_
  refine AL.p (by exact as1 rfl) rfl ?_
  refine AL.nil ?_
  refine th_n ?_
  refine AC.seq ?_
  refine AC.seq ?_
  refine AC.region ?_
  refine AL.p (by exact mv1 rfl) rfl ?_
  refine AL.p (by exact g_not rfl) rfl ?_
  refine AL.nil ?_
  refine th_n ?_
  refine AC.condB rfl (fun h0 => ?_) (fun h0 => ?_)
  · refine AC.seq ?_
    exact absurd h0 (by decide)
  · refine AC.skip ?_
    refine th_n ?_
    refine AC.seq ?_
    refine AC.region ?_
    refine AL.p (by exact mv3 rfl) rfl ?_
    refine AL.p (by exact mv1 rfl) rfl ?_
    refine AL.p (by exact mv1 rfl) rfl ?_
    refine AL.q (by exact h_borrow [24, 25, 26, 27, 28] en_brCompare rfl rfl hLo (br_lent [24, 25, 26, 27, 28] 24 25 26 27 28 rfl rfl rfl rfl rfl rfl rfl rfl rfl rfl (.cons (.of .d) (.cons (.of .d) .nil))) rfl) rfl ?_
    refine AL.p (by exact as1 rfl) rfl ?_
    refine AL.p (by exact as1 rfl) rfl ?_
    refine AL.nil ?_
    refine th_n ?_
    refine AC.ret ?_
    refine bq_r ?_
    exact ret2 rfl rfl rfl
theorem en_iCompare : Enters Tryz.prog 23 := enters_of Tryz.func23 rfl rfl
theorem iCompare_spec (N : Net) (m : List UInt8) (u : Unf) (x y : Int) (hB : NetL N) (hm : m.length ≤ 2000000) (hu : UnfL u) (hx : okI x) (hy : okI y) : ASpec Tryz.prog 23 [netA N, aS (bstr m), unfA u, aI x, aI y] [] (Pure1 (.tup [aI (cmpR N m u x y), aT (evB N m u x y)])) := by
  cases ha : evB N m u x y with
  | true => rw [← ha]; exact iCompare_t N m u x y hB hm hu ha
  | false => rw [← ha]; exact iCompare_f N m u x y hB hm hu ha
end Go.Proofs.YtlpafiiaminjkaaGreat

set_option linter.all false
set_option maxRecDepth 20000
namespace Go.Proofs.YtlpafiiaminjkaaGreat
open Go.RowKit

set_option maxRecDepth 20000 in
set_option maxHeartbeats 8000000 in
theorem FnExactCompareEvents_spec (N : Net) (m : List UInt8) (u : Unf) (i : Int) (i2 : Int) (hN : ArgN N) (hm : m.length ≤ 9223372036854775807) (hu : ArgU u) (hi : okI i) (hi2 : okI i2) : ASpec Tryz.prog 5 [lnetA N, aS (bstr m), lunfA u, aI i, aI i2] [] (Pure1 (aT true)) := by
  have hsz := bstr_size m
  have hS1 := szNet_spec N 1048576 (by omega) hN.l hN.t
  have hI1 := szNt_in (ts := N.ts) (left := 1048576) (by omega)
  obtain ⟨a, ha⟩ : ∃ a, a = szNt N.ts 1048576 := ⟨_, rfl⟩
  rw [← ha] at hS1 hI1
  refine ASpec.of Tryz.func5 rfl rfl fun C hC => ?_
  refine AC.seq ?_
  refine AC.region ?_
  refine AL.q (by exact h_boxF rfl rfl) rfl ?_
  refine AL.q (by exact h_boxF rfl rfl) rfl ?_
  refine AL.p (by exact as1 rfl) rfl ?_
  refine AL.nil ?_
  refine th_n ?_
  refine AC.seq ?_
  refine AC.seq ?_
  refine AC.region ?_
  refine AL.p (by exact mv1 rfl) rfl ?_
  refine AL.p (by exact g_len_str rfl rfl rfl) rfl ?_
  refine AL.p (by exact g_cmp rfl rfl rfl) rfl ?_
  refine AL.nil ?_
  refine th_n ?_
  refine AC.condD rfl (fun h0 => ?_) (fun h0 => ?_)
  · refine AC.seq ?_
    refine AC.region ?_
    refine AL.p (by exact as1 rfl) rfl ?_
    refine AL.nil ?_
    refine th_n ?_
    refine AC.ret ?_
    refine th_r ?_
    refine bq_r ?_
    exact ret1 rfl rfl
  · refine AC.skip ?_
    refine th_n ?_
    refine AC.seq ?_
    refine AC.region ?_
    refine AL.p (by exact as1 rfl) rfl ?_
    refine AL.nil ?_
    refine th_n ?_
    refine AC.seq ?_
    refine AC.region ?_
    refine AL.p (by exact g_load_refN rfl rfl rfl rfl) rfl ?_
    refine AL.p (by exact mv1 rfl) rfl ?_
    refine AL.q (by exact h_pure en_szNet rfl rfl (by repeat (first | exact rfl | exact DLead.same | refine ⟨_, _, rfl, ?_, ?_⟩ | refine ⟨_, rfl, ?_⟩)) hS1 rfl) rfl ?_
    refine AL.p (by exact as1 rfl) rfl ?_
    refine AL.nil ?_
    refine th_n ?_
    refine AC.seq ?_
    refine AC.seq ?_
    refine AC.region ?_
    refine AL.p (by exact mv1 rfl) rfl ?_
    refine AL.p (by exact g_cmp rfl rfl rfl) rfl ?_
    refine AL.nil ?_
    refine th_n ?_
    refine AC.condD rfl (fun h1 => ?_) (fun h1 => ?_)
    · refine AC.seq ?_
      refine AC.region ?_
      refine AL.p (by exact as1 rfl) rfl ?_
      refine AL.nil ?_
      refine th_n ?_
      refine AC.ret ?_
      refine th_r ?_
      refine bq_r ?_
      exact ret1 rfl rfl
    · refine AC.skip ?_
      refine th_n ?_
      refine AC.seq ?_
      have hNl : (N.ts.length : Int) ≤ 1048576 ∧ ∀ t, t ∈ N.ts → (t.pre.length : Int) ≤ 1048576 ∧ (t.post.length : Int) ≤ 1048576 := by rcases hI1 with h | h; omega; exact h.2.2
      have haI : 0 ≤ a ∧ a ≤ 1048576 := by omega
      have hS2 := szUnf_spec u a haI hu.c hu.l hu.t
      have hI2 := szU_in (u := u) haI
      obtain ⟨b, hb⟩ : ∃ b, b = szU u a := ⟨_, rfl⟩
      rw [← hb] at hS2 hI2
      refine AC.region ?_
      refine AL.p (by exact g_load_refN rfl rfl rfl rfl) rfl ?_
      refine AL.p (by exact mv1 rfl) rfl ?_
      refine AL.q (by exact h_pure en_szUnf rfl rfl (by repeat (first | exact rfl | exact DLead.same | refine ⟨_, _, rfl, ?_, ?_⟩ | refine ⟨_, rfl, ?_⟩)) hS2 rfl) rfl ?_
      refine AL.p (by exact as1 rfl) rfl ?_
      refine AL.nil ?_
      refine th_n ?_
      refine AC.seq ?_
      refine AC.seq ?_
      refine AC.region ?_
      refine AL.p (by exact mv1 rfl) rfl ?_
      refine AL.p (by exact g_cmp rfl rfl rfl) rfl ?_
      refine AL.nil ?_
      refine th_n ?_
      refine AC.condD rfl (fun h2 => ?_) (fun h2 => ?_)
      · refine AC.seq ?_
        refine AC.region ?_
        refine AL.p (by exact as1 rfl) rfl ?_
        refine AL.nil ?_
        refine th_n ?_
        refine AC.ret ?_
        refine th_r ?_
        refine bq_r ?_
        exact ret1 rfl rfl
      · refine AC.skip ?_
        refine th_n ?_
        refine AC.seq ?_
        have hm' : m.length ≤ 1048576 := by omega
        have hUl : (u.cs.length : Int) ≤ 1048576 ∧ (u.es.length : Int) ≤ 1048576 ∧ ∀ e, e ∈ u.es → (e.pre.length : Int) ≤ 1048576 := by rcases hI2 with h | h; omega; exact ⟨by omega, by omega, fun e he => by have := h.2.2.2.2 e he; omega⟩
        have hNl1 : N.ts.length ≤ 1048576 := by omega
        have hNl2 : ∀ t, t ∈ N.ts → t.pre.length ≤ 1048576 ∧ t.post.length ≤ 1048576 := fun t ht => by have := hNl.2 t ht; omega
        have hUc : u.cs.length ≤ 1048576 := by omega
        have hUe : u.es.length ≤ 1048576 := by omega
        have hUt : ∀ e, e ∈ u.es → e.pre.length ≤ 1048576 := fun e he => by have := hUl.2.2 e he; omega
        have hNL : NetL N := ⟨hN.p, by omega, fun t ht => by have := hNl2 t ht; omega⟩
        have hUL : UnfL u := ⟨hUe, hUc, fun e he => by have := hUt e he; omega⟩
        have hcToNet := toNet_spec N hNl1 hNl2
        have hcToUnf := toUnf_spec u hUc hUe hUt
        have hcEqNet := eqNet_spec N N hNl1 hNl1 hNl2 hNl2
        have hcEqUnf := eqUnf_spec u u hUe hUe hUt hUt hUc hUc
        rw [decide_eq_true rfl] at hcEqNet hcEqUnf
        have hG1 := sCompare_spec N m u i i2 hNL (by omega) hUL hi hi2
        have hG2 := iCompare_spec N m u i i2 hNL (by omega) hUL hi hi2
        obtain ⟨g0, hg0⟩ : ∃ g, g = cmpR N m u i i2 := ⟨_, rfl⟩
        rw [← hg0] at hG1 hG2
        obtain ⟨g1, hg1⟩ : ∃ g, g = evB N m u i i2 := ⟨_, rfl⟩
        rw [← hg1] at hG1 hG2
        refine AC.drawn' mixed_ok [[], [0], [], [], [0,1,3], [], [], [0,1,2,3,4,5,6], [0,1,2,3,4,5,6,7], [0,1,2,3,4,5,6,7,8], [0,1,2,3,4,5,6,7,8], [0,1,2,3,4,5,6,7,8,9], [0,1,2,3,4,5,6,7,8,9,10,11]] (by decide) ?_
        refine DF.op 0 [] 13 rfl rfl rfl (.free rfl (NOp.of (by exact g_load_refN rfl rfl rfl rfl))) rfl ?_
        refine DF.op 1 [0] 13 rfl rfl rfl (.free rfl (by exact h_pure en_toNet rfl rfl (by repeat (first | exact rfl | exact DLead.same | refine ⟨_, _, rfl, ?_, ?_⟩ | refine ⟨_, rfl, ?_⟩)) hcToNet rfl)) rfl ?_
        refine DF.op 2 [] 13 rfl rfl rfl (.free rfl (NOp.of (by exact mv1 rfl))) rfl ?_
        refine DF.op 3 [] 13 rfl rfl rfl (.free rfl (NOp.of (by exact g_load_refN rfl rfl rfl rfl))) rfl ?_
        refine DF.op 4 [0,1,3] 13 rfl rfl rfl (.free rfl (by exact h_pure en_toUnf rfl rfl (by repeat (first | exact rfl | exact DLead.same | refine ⟨_, _, rfl, ?_, ?_⟩ | refine ⟨_, rfl, ?_⟩)) hcToUnf rfl)) rfl ?_
        refine DF.op 5 [] 13 rfl rfl rfl (.free rfl (NOp.of (by exact mv1 rfl))) rfl ?_
        refine DF.op 6 [] 13 rfl rfl rfl (.free rfl (NOp.of (by exact mv1 rfl))) rfl ?_
        refine DF.op 7 [0,1,2,3,4,5,6] 13 rfl rfl rfl (.free rfl (by exact h_pure en_sCompare rfl rfl (by repeat (first | exact rfl | exact DLead.same | refine ⟨_, _, rfl, ?_, ?_⟩ | refine ⟨_, rfl, ?_⟩)) hG1 rfl)) rfl ?_
        refine DF.op 8 [0,1,2,3,4,5,6,7] 13 rfl rfl rfl (.free rfl (NOp.of (by exact mv5 rfl))) rfl ?_
        refine DF.op 9 [0,1,2,3,4,5,6,7,8] 13 rfl rfl rfl (.free rfl (NOp.of (by exact g_extract (r := .d _) rfl rfl))) rfl ?_
        refine DF.op 10 [0,1,2,3,4,5,6,7,8] 13 rfl rfl rfl (.free rfl (NOp.of (by exact g_extract (r := .d _) rfl rfl))) rfl ?_
        refine DF.op 11 [0,1,2,3,4,5,6,7,8,9] 13 rfl rfl rfl (.free rfl (NOp.of (by exact as1 rfl))) rfl ?_
        refine DF.op 12 [0,1,2,3,4,5,6,7,8,9,10,11] 13 rfl rfl rfl (.free rfl (NOp.of (by exact as1 rfl))) rfl ?_
        refine DF.fin (ps := [(0, 2), (0, 3), (0, 5), (0, 6), (1, 2), (1, 3), (1, 5), (1, 6), (2, 0), (2, 1), (2, 3), (2, 4), (2, 5), (2, 6), (3, 0), (3, 1), (3, 2), (3, 5), (3, 6), (4, 2), (4, 5), (4, 6), (5, 0), (5, 1), (5, 2), (5, 3), (5, 4), (5, 6), (6, 0), (6, 1), (6, 2), (6, 3), (6, 4), (6, 5), (9, 10), (10, 9), (10, 11), (11, 10)]) 13 rfl (by decide +kernel) (by decide +kernel) (by rfl) ?_
        refine th_n ?_
        refine AC.seq ?_
        refine AC.region ?_
        refine AL.p (by exact g_load_refN rfl rfl rfl rfl) rfl ?_
        refine AL.q (by exact h_pure en_toNet rfl rfl (by repeat (first | exact rfl | exact DLead.same | refine ⟨_, _, rfl, ?_, ?_⟩ | refine ⟨_, rfl, ?_⟩)) hcToNet rfl) rfl ?_
        refine AL.q (by exact h_alloc rfl) rfl ?_
        refine AL.q (by exact h_store rfl rfl rfl rfl rfl rfl) rfl ?_
        refine AL.nil ?_
        refine th_n ?_
        refine AC.seq ?_
        refine AC.region ?_
        refine AL.p (by exact g_load_refN rfl rfl rfl rfl) rfl ?_
        refine AL.q (by exact h_pure en_toUnf rfl rfl (by repeat (first | exact rfl | exact DLead.same | refine ⟨_, _, rfl, ?_, ?_⟩ | refine ⟨_, rfl, ?_⟩)) hcToUnf rfl) rfl ?_
        refine AL.q (by exact h_alloc rfl) rfl ?_
        refine AL.q (by exact h_store rfl rfl rfl rfl rfl rfl) rfl ?_
        refine AL.nil ?_
        refine th_n ?_
        refine AC.seq ?_
        refine AC.region ?_
        refine AL.p (by exact g_load_ptrN rfl rfl rfl rfl rfl) rfl ?_
        refine AL.p (by exact mv1 rfl) rfl ?_
        refine AL.p (by exact g_load_ptrN rfl rfl rfl rfl rfl) rfl ?_
        refine AL.p (by exact mv1 rfl) rfl ?_
        refine AL.p (by exact mv1 rfl) rfl ?_
        refine AL.q (by exact h_pure en_iCompare rfl rfl (by repeat (first | exact rfl | exact DLead.same | refine ⟨_, _, rfl, ?_, ?_⟩ | refine ⟨_, rfl, ?_⟩)) hG2 rfl) rfl ?_
        refine AL.p (by exact mv5 rfl) rfl ?_
        refine AL.p (by exact g_extract (r := .d _) rfl rfl) rfl ?_
        refine AL.p (by exact g_extract (r := .d _) rfl rfl) rfl ?_
        refine AL.p (by exact as1 rfl) rfl ?_
        refine AL.p (by exact as1 rfl) rfl ?_
        refine AL.nil ?_
        refine th_n ?_
        refine AC.seq ?_
        refine AC.seq ?_
        refine AC.region ?_
        refine AL.p (by exact mv1 rfl) rfl ?_
        refine AL.p (by exact mv1 rfl) rfl ?_
        refine AL.p (by exact g_cmp rfl rfl rfl) rfl ?_
        refine AL.p (by exact mv1 rfl) rfl ?_
        refine AL.caseGN rfl rfl (fun h3 => ?_) (fun h3 => ?_)
        · refine AL.not rfl rfl rfl rfl rfl ?_
          refine AL.not rfl rfl rfl rfl rfl ?_
          refine AL.not rfl rfl rfl rfl rfl ?_
          refine AL.p (by exact g_pickT (r := .d _) rfl rfl) rfl ?_
          refine AL.nil ?_
          refine th_n ?_
          refine AC.condT rfl ?_
          refine AC.seq ?_
          exact absurd h3 (by simp)
        · refine AL.yes rfl rfl rfl ?_
          refine AL.p (by exact mv1 rfl) rfl ?_
          refine AL.yes rfl rfl rfl ?_
          refine AL.p (by exact mv1 rfl) rfl ?_
          refine AL.yes rfl rfl rfl ?_
          refine AL.p (by exact g_neB rfl rfl rfl) rfl ?_
          refine AL.p (by exact g_pickF (r := .d _) rfl rfl) rfl ?_
          refine AL.nil ?_
          refine th_n ?_
          refine AC.condND rfl (fun h4 => ?_) (fun h4 => ?_)
          · refine AC.seq ?_
            exact absurd h4 (by simp)
          · refine AC.skip ?_
            refine th_n ?_
            refine AC.seq ?_
            refine AC.seq ?_
            refine AC.drawn' mixed_ok [[], [], [1], [0,1,2], [0,1,2,3]] (by decide) ?_
            refine DF.op 0 [] 5 rfl rfl rfl (.free rfl (NOp.of (by exact g_load_ptrN rfl rfl rfl rfl rfl))) rfl ?_
            refine DF.op 1 [] 5 rfl rfl rfl (.free rfl (NOp.of (by exact g_load_refN rfl rfl rfl rfl))) rfl ?_
            refine DF.op 2 [1] 5 rfl rfl rfl (.free rfl (by exact h_pure en_toNet rfl rfl (by repeat (first | exact rfl | exact DLead.same | refine ⟨_, _, rfl, ?_, ?_⟩ | refine ⟨_, rfl, ?_⟩)) hcToNet rfl)) rfl ?_
            refine DF.op 3 [0,1,2] 5 rfl rfl rfl (.free rfl (by exact h_pure en_eqNet rfl rfl (by repeat (first | exact rfl | exact DLead.same | refine ⟨_, _, rfl, ?_, ?_⟩ | refine ⟨_, rfl, ?_⟩)) hcEqNet rfl)) rfl ?_
            refine DF.op 4 [0,1,2,3] 5 rfl rfl rfl (.free rfl (NOp.of (by exact g_not rfl))) rfl ?_
            refine DF.fin (ps := [(0, 1), (0, 2), (1, 0), (2, 0)]) 5 rfl (by decide +kernel) (by decide +kernel) (by rfl) ?_
            refine th_n ?_
            refine AC.condB rfl (fun h5 => ?_) (fun h5 => ?_)
            · refine AC.seq ?_
              exact absurd h5 (by simp)
            · refine AC.skip ?_
              refine th_n ?_
              refine AC.seq ?_
              refine AC.seq ?_
              refine AC.drawn' mixed_ok [[], [], [1], [0,1,2], [0,1,2,3]] (by decide) ?_
              refine DF.op 0 [] 5 rfl rfl rfl (.free rfl (NOp.of (by exact g_load_ptrN rfl rfl rfl rfl rfl))) rfl ?_
              refine DF.op 1 [] 5 rfl rfl rfl (.free rfl (NOp.of (by exact g_load_refN rfl rfl rfl rfl))) rfl ?_
              refine DF.op 2 [1] 5 rfl rfl rfl (.free rfl (by exact h_pure en_toUnf rfl rfl (by repeat (first | exact rfl | exact DLead.same | refine ⟨_, _, rfl, ?_, ?_⟩ | refine ⟨_, rfl, ?_⟩)) hcToUnf rfl)) rfl ?_
              refine DF.op 3 [0,1,2] 5 rfl rfl rfl (.free rfl (by exact h_pure en_eqUnf rfl rfl (by repeat (first | exact rfl | exact DLead.same | refine ⟨_, _, rfl, ?_, ?_⟩ | refine ⟨_, rfl, ?_⟩)) hcEqUnf rfl)) rfl ?_
              refine DF.op 4 [0,1,2,3] 5 rfl rfl rfl (.free rfl (NOp.of (by exact g_not rfl))) rfl ?_
              refine DF.fin (ps := [(0, 1), (0, 2), (1, 0), (2, 0)]) 5 rfl (by decide +kernel) (by decide +kernel) (by rfl) ?_
              refine th_n ?_
              refine AC.condB rfl (fun h6 => ?_) (fun h6 => ?_)
              · refine AC.seq ?_
                exact absurd h6 (by simp)
              · refine AC.skip ?_
                refine th_n ?_
                refine AC.seq ?_
                refine AC.region ?_
                refine AL.p (by exact as1 rfl) rfl ?_
                refine AL.nil ?_
                refine th_n ?_
                refine AC.ret ?_
                refine bq_r ?_
                exact ret1 rfl rfl
end Go.Proofs.YtlpafiiaminjkaaGreat

