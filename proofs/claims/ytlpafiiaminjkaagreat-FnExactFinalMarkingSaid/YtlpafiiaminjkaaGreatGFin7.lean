/- Contracts of the functions of the program and of the reference, each proved by a walk through its code. -/
import Derived.WalkKit
import Derived.WalkSpells
import Derived.WalkLawsBesides
import Derived.Deep.Draws
import Derived.Lib.Hide
import Derived.Maps.AppendAt
import Derived.OwnWalk
import Derived.Deep.MidRow
import Derived.Laws.ResultCell
import Derived.Deep.Upon
import Derived.Great.FillDense
import Derived.Laws.Tables
import Derived.Laws.BytesArg
import Derived.Laws.MakeOwn
import Derived.Great.BuildSlice
import Derived.ArgAppend
import Derived.Deep.AppendSrc
import Derived.Test.YtlpafiiaminjkaaGreatProg
import Derived.KernelRfl
import Derived.Orders
import Derived.Laws.IdiomStrings
import Derived.Lib.AppendZerosOnto
import Derived.ProofKit
import Derived.OpenShut
import Derived.Laws.StructEq
import Derived.ChangeKeysEq
import Derived.Sort.Grow
import Derived.Shelf.Small.Bits
import Derived.Shelf.Strconv.Itoa0
import Derived.Shelf.Sort.Plain
import Derived.Ground.Names2Prog
import Derived.Shelf.Slices.Clone
import Derived.Shelf.Slices.SearchI
import Derived.Shelf.Slices.In.SortNone
import Derived.Ground.SlgnProg
import Derived.Shelf.SlicesE.Clone
import Derived.Test.YtlpafiiaminjkaaGreatRows
import Derived.Test.YtlpafiiaminjkaaGreatChecked
import Derived.Test.YtlpafiiaminjkaaGreatGFin6
set_option linter.all false
set_option maxRecDepth 20000
namespace Go.Proofs.YtlpafiiaminjkaaGreat
open Go.RowKit

theorem c1 {q b1 b2 : Bool} (hq : q = ((true || b1) && !b2)) (h : (!b2) = true) : q = true := by rw [hq, h]; rfl
theorem c2 {q b1 b2 : Bool} (hq : q = ((true || b1) && !b2)) (h : (!b2) = false) : q = false := by rw [hq, h]; rfl
theorem c3 {q b1 b2 : Bool} (hq : q = ((false || b1) && !b2)) (h1 : b1 = true) (h : (!b2) = true) : q = true := by rw [hq, h1, h]; rfl
theorem c4 {q b1 b2 : Bool} (hq : q = ((false || b1) && !b2)) (h1 : b1 = true) (h : (!b2) = false) : q = false := by rw [hq, h1, h]; rfl
theorem c5 {q b1 b2 : Bool} (hq : q = ((false || b1) && !b2)) (h1 : b1 = false) : q = false := by rw [hq, h1]; rfl
set_option maxRecDepth 20000 in
set_option maxHeartbeats 4000000 in
theorem brCut_spec (N : Net) (u : Unf) (L A : List ES) (s : ES) (hW : WB u L A) (hs : subU s u.es.length) : ASpec Tryz.prog 84 [.d (.ref (brD N u L A)), aU s] [] (Pure1 (.d (vI (cutK (cutR u s) u.cs.length)))) := by
  have hcl := hW.w.c
  have hel := hW.e
  refine ASpec.of Tryz.func84 rfl rfl fun C hC => ?_
  refine AC.seq ?_
  refine AC.region ?_
  refine AL.p (by exact as1 rfl) rfl ?_
  refine AL.nil ?_
  refine th_n ?_
  refine AC.seq ?_
  refine AC.region ?_
  refine AL.q (by exact h_lit rfl rfl rfl rfl rfl rfl rfl rfl) rfl ?_
  refine AL.p (by exact as2 rfl) rfl ?_
  refine AL.nil ?_
  refine th_n ?_
  refine AC.seq ?_
  refine AC.seq ?_
  refine AC.region ?_
  refine AL.p (by exact mv1 rfl) rfl ?_
  refine AL.p (by exact g_nilR rfl) rfl ?_
  refine AL.p (by exact g_fa_ref rfl rfl rfl rfl rfl rfl) rfl ?_
  refine AL.p (by exact g_fa_ref rfl rfl rfl rfl rfl rfl) rfl ?_
  refine AL.p (by exact g_load_ref rfl rfl rfl) rfl ?_
  refine AL.p (by exact g_len_view rfl rfl (by exact List.length_map _)) rfl ?_
  refine AL.p (by exact mv1 rfl) rfl ?_
  refine AL.nil ?_
  refine th_n ?_
  refine AC.block ?_
  refine AC.loop (ι := Nat) (fun k => ⟨42, 108, [(0, .d (.ref (brD N u L A))), (1, aU s), (5, .own 100 (cutK (cutR u s) k).length), (13, .d (vCs u.cs)), (14, aI u.cs.length), (15, aI k)], [(100, some (.arr 3 1 (ints (cutK (cutR u s) k))))]⟩) (fun k => k ≤ u.cs.length) (fun k => u.cs.length - k) (0) ?_ (Nat.zero_le _) ?_
  · exact Weak.ren _ [(100, _)] hC rfl (by repeat (first | exact True.intro | refine And.intro ?_ ?_ | exact DLead.same | exact rfl | refine ⟨_, rfl, ?_⟩)) (by repeat (first | exact True.intro | refine And.intro ?_ ?_ | exact rfl | refine ⟨_, _, rfl, rfl, ?_⟩)) rfl rfl rfl
  · intro k hk
    refine AC.seq ?_
    refine AC.region ?_
    refine AL.p (by exact g_cmp rfl rfl rfl) rfl ?_
    refine AL.nil ?_
    refine th_n ?_
    refine AC.seq ?_
    refine AC.condD rfl (fun h0 => ?_) (fun h0 => ?_)
    · refine AC.skip ?_
      refine th_n ?_
      refine AC.seq ?_
      refine AC.block ?_
      refine AC.seq ?_
      have hk1 : k < u.cs.length := by omega
      have hget := condsL_get hk1
      have hln := cutK_len (cutR u s) k
      have hbb := hW.w.b _ (List.getElem_mem hk1)
      have hcv : cAt u (k : Int) = u.cs[k] := cAt_nat hk1
      have hKo := brConsumed_spec N u L A s (k : Int) hW.w hs
      have hHa : 0 ≤ u.cs[k].by_ → ASpec Tryz.prog 129 [aU s, aI u.cs[k].by_] [] (Pure1 (aT (s.getLsbD u.cs[k].by_.toNat))) := fun h0 => by have := esHas_spec s u.cs[k].by_.toNat (by omega); rwa [Int.toNat_of_nonneg h0] at this
      have hq : cutR u s k = ((decide (u.cs[k].by_ < 0) || s.getLsbD u.cs[k].by_.toNat) && !consI u s (k : Int)) := by unfold cutR; rw [hcv]
      obtain ⟨b1, hb1⟩ : ∃ b, b = s.getLsbD u.cs[k].by_.toNat := ⟨_, rfl⟩
      obtain ⟨b2, hb2⟩ : ∃ b, b = consI u s (k : Int) := ⟨_, rfl⟩
      rw [← hb1] at hHa
      rw [← hb2] at hKo
      rw [← hb1, ← hb2] at hq
      refine AC.region ?_
      refine AL.p (by exact mv1 rfl) rfl ?_
      refine AL.p (by exact g_ia_view rfl rfl rfl rfl rfl (by rfl) (by assumption)) rfl ?_
      refine AL.p (by exact g_load_refN rfl rfl rfl rfl) rfl ?_
      refine AL.q (by exact h_alloc rfl) rfl ?_
      refine AL.p (by exact as1 rfl) rfl ?_
      refine AL.q (by exact h_store rfl rfl rfl rfl rfl rfl) rfl ?_
      refine AL.nil ?_
      refine th_n ?_
      refine AC.seq ?_
      refine AC.region ?_
      refine AL.p (by exact g_fa_ptr rfl rfl rfl rfl rfl) rfl ?_
      refine AL.p (by exact g_load_ptr rfl rfl rfl rfl rfl) rfl ?_
      refine AL.p (by exact g_cmp rfl rfl rfl) rfl ?_
      refine AL.p (by exact mv1 rfl) rfl ?_
      refine AL.caseG rfl rfl (fun h1 => ?_) (fun h1 => ?_)
      · refine AL.not rfl rfl rfl rfl rfl ?_
        refine AL.not rfl rfl rfl rfl rfl ?_
        refine AL.not rfl rfl rfl rfl rfl ?_
        refine AL.not rfl rfl rfl rfl rfl ?_
        refine AL.p (by exact g_pickT (r := .d _) rfl rfl) rfl ?_
        refine AL.p (by exact mv1 rfl) rfl ?_
        refine AL.yes rfl rfl rfl ?_
        refine AL.p (by exact mv1 rfl) rfl ?_
        refine AL.yes rfl rfl rfl ?_
        refine AL.p (by exact mv1 rfl) rfl ?_
        refine AL.yes rfl rfl rfl ?_
        refine AL.p (by exact mv1 rfl) rfl ?_
        refine AL.yes rfl rfl rfl ?_
        refine AL.q (by exact h_pure en_brConsumed rfl rfl (by repeat (first | exact rfl | exact DLead.same | refine ⟨_, _, rfl, ?_, ?_⟩)) hKo rfl) rfl ?_
        refine AL.yes rfl rfl rfl ?_
        refine AL.p (by exact g_not rfl) rfl ?_
        refine AL.p (by exact g_pickT (r := .d _) rfl rfl) rfl ?_
        refine AL.nil ?_
        refine th_n ?_
        refine AC.condB rfl (fun h2 => ?_) (fun h2 => ?_)
        · refine AC.region ?_
          refine AL.p (by exact mv2 rfl) rfl ?_
          refine AL.p (by exact mv1 rfl) rfl ?_
          refine AL.q (by exact h_litF rfl rfl rfl rfl rfl rfl rfl rfl) rfl ?_
          refine AL.q (by exact h_appendI (cutK (cutR u s) k) [(k : Int)] (.own rfl rfl (ints_len _).symm) (.view rfl) (by simp; omega) (by simp)) rfl ?_
          refine AL.p (by exact as2 rfl) rfl ?_
          refine AL.nil ?_
          refine ib_n ?_
          refine th_n ?_
          refine AC.region ?_
          refine AL.p (by exact g_arith rfl rfl rfl (by exact wrap_i64 (by omega))) rfl ?_
          refine AL.p (by exact mv1 rfl) rfl ?_
          refine AL.nil ?_
          refine th_n ?_
          rw [decide_eq_true h1] at hq
          have e := cutK_t (c1 hq h2)
          exact ⟨k + 1, by omega, by omega, Weak.ren _ [(100, _)] hC rfl (by rw [e]; repeat (first | exact True.intro | refine And.intro ?_ ?_ | exact DLead.same | exact rfl | refine ⟨_, rfl, ?_⟩)) (by rw [e]; repeat (first | exact True.intro | refine And.intro ?_ ?_ | exact rfl | refine ⟨_, _, rfl, rfl, ?_⟩)) rfl rfl rfl⟩
        · refine AC.skip ?_
          refine ib_n ?_
          refine th_n ?_
          refine AC.region ?_
          refine AL.p (by exact g_arith rfl rfl rfl (by exact wrap_i64 (by omega))) rfl ?_
          refine AL.p (by exact mv1 rfl) rfl ?_
          refine AL.nil ?_
          refine th_n ?_
          rw [decide_eq_true h1] at hq
          have e := cutK_f (c2 hq h2)
          exact ⟨k + 1, by omega, by omega, Weak.ren _ [(100, _)] hC rfl (by rw [e]; repeat (first | exact True.intro | refine And.intro ?_ ?_ | exact DLead.same | exact rfl | refine ⟨_, rfl, ?_⟩)) (by rw [e]; repeat (first | exact True.intro | refine And.intro ?_ ?_ | exact rfl | refine ⟨_, _, rfl, rfl, ?_⟩)) rfl rfl rfl⟩
      · refine AL.yes rfl rfl rfl ?_
        refine AL.p (by exact mv1 rfl) rfl ?_
        refine AL.yes rfl rfl rfl ?_
        refine AL.p (by exact g_fa_ptr rfl rfl rfl rfl rfl) rfl ?_
        refine AL.yes rfl rfl rfl ?_
        refine AL.p (by exact g_load_ptr rfl rfl rfl rfl rfl) rfl ?_
        refine AL.yes rfl rfl rfl ?_
        refine AL.q (by exact h_pure en_esHas rfl rfl (by repeat (first | exact rfl | exact DLead.same | refine ⟨_, _, rfl, ?_, ?_⟩)) (hHa (by omega)) rfl) rfl ?_
        refine AL.p (by exact g_pickF (r := .d _) rfl rfl) rfl ?_
        refine AL.p (by exact mv1 rfl) rfl ?_
        refine AL.caseGB rfl rfl (fun h2 => ?_) (fun h2 => ?_)
        · refine AL.yes rfl rfl rfl ?_
          refine AL.p (by exact mv1 rfl) rfl ?_
          refine AL.yes rfl rfl rfl ?_
          refine AL.p (by exact mv1 rfl) rfl ?_
          refine AL.yes rfl rfl rfl ?_
          refine AL.p (by exact mv1 rfl) rfl ?_
          refine AL.yes rfl rfl rfl ?_
          refine AL.q (by exact h_pure en_brConsumed rfl rfl (by repeat (first | exact rfl | exact DLead.same | refine ⟨_, _, rfl, ?_, ?_⟩)) hKo rfl) rfl ?_
          refine AL.yes rfl rfl rfl ?_
          refine AL.p (by exact g_not rfl) rfl ?_
          refine AL.p (by exact g_pickT (r := .d _) rfl rfl) rfl ?_
          refine AL.nil ?_
          refine th_n ?_
          refine AC.condB rfl (fun h3 => ?_) (fun h3 => ?_)
          · refine AC.region ?_
            refine AL.p (by exact mv2 rfl) rfl ?_
            refine AL.p (by exact mv1 rfl) rfl ?_
            refine AL.q (by exact h_litF rfl rfl rfl rfl rfl rfl rfl rfl) rfl ?_
            refine AL.q (by exact h_appendI (cutK (cutR u s) k) [(k : Int)] (.own rfl rfl (ints_len _).symm) (.view rfl) (by simp; omega) (by simp)) rfl ?_
            refine AL.p (by exact as2 rfl) rfl ?_
            refine AL.nil ?_
            refine ib_n ?_
            refine th_n ?_
            refine AC.region ?_
            refine AL.p (by exact g_arith rfl rfl rfl (by exact wrap_i64 (by omega))) rfl ?_
            refine AL.p (by exact mv1 rfl) rfl ?_
            refine AL.nil ?_
            refine th_n ?_
            rw [decide_eq_false h1] at hq
            have e := cutK_t (c3 hq h2 h3)
            exact ⟨k + 1, by omega, by omega, Weak.ren _ [(100, _)] hC rfl (by rw [e]; repeat (first | exact True.intro | refine And.intro ?_ ?_ | exact DLead.same | exact rfl | refine ⟨_, rfl, ?_⟩)) (by rw [e]; repeat (first | exact True.intro | refine And.intro ?_ ?_ | exact rfl | refine ⟨_, _, rfl, rfl, ?_⟩)) rfl rfl rfl⟩
          · refine AC.skip ?_
            refine ib_n ?_
            refine th_n ?_
            refine AC.region ?_
            refine AL.p (by exact g_arith rfl rfl rfl (by exact wrap_i64 (by omega))) rfl ?_
            refine AL.p (by exact mv1 rfl) rfl ?_
            refine AL.nil ?_
            refine th_n ?_
            rw [decide_eq_false h1] at hq
            have e := cutK_f (c4 hq h2 h3)
            exact ⟨k + 1, by omega, by omega, Weak.ren _ [(100, _)] hC rfl (by rw [e]; repeat (first | exact True.intro | refine And.intro ?_ ?_ | exact DLead.same | exact rfl | refine ⟨_, rfl, ?_⟩)) (by rw [e]; repeat (first | exact True.intro | refine And.intro ?_ ?_ | exact rfl | refine ⟨_, _, rfl, rfl, ?_⟩)) rfl rfl rfl⟩
        · refine AL.not rfl rfl rfl rfl rfl ?_
          refine AL.not rfl rfl rfl rfl rfl ?_
          refine AL.not rfl rfl rfl rfl rfl ?_
          refine AL.not rfl rfl rfl rfl rfl ?_
          refine AL.not rfl rfl rfl rfl rfl ?_
          refine AL.p (by exact g_pickF (r := .d _) rfl rfl) rfl ?_
          refine AL.nil ?_
          refine th_n ?_
          refine AC.condF rfl ?_
          refine AC.skip ?_
          refine ib_n ?_
          refine th_n ?_
          refine AC.region ?_
          refine AL.p (by exact g_arith rfl rfl rfl (by exact wrap_i64 (by omega))) rfl ?_
          refine AL.p (by exact mv1 rfl) rfl ?_
          refine AL.nil ?_
          refine th_n ?_
          rw [decide_eq_false h1] at hq
          have e := cutK_f (c5 hq h2)
          exact ⟨k + 1, by omega, by omega, Weak.ren _ [(100, _)] hC rfl (by rw [e]; repeat (first | exact True.intro | refine And.intro ?_ ?_ | exact DLead.same | exact rfl | refine ⟨_, rfl, ?_⟩)) (by rw [e]; repeat (first | exact True.intro | refine And.intro ?_ ?_ | exact rfl | refine ⟨_, _, rfl, rfl, ?_⟩)) rfl rfl rfl⟩
    · refine AC.exit ?_
      refine th_e ?_
      refine th_e ?_
      refine ib_y ?_
      refine th_n ?_
      refine AC.seq ?_
      have hkk : k = u.cs.length := by omega
      subst hkk
      refine AC.weak (Weak.freeze (i := 5) rfl rfl (Nat.le_of_eq (ints_len _).symm) (ints_all _)) ?_
      refine AC.region ?_
      refine AL.p (by exact mv1 rfl) rfl ?_
      refine AL.p (by exact as1 rfl) rfl ?_
      refine AL.nil ?_
      refine th_n ?_
      refine AC.ret ?_
      refine bq_r ?_
      exact ret1 rfl rfl
theorem en_brCut : Enters Tryz.prog 84 := enters_of Tryz.func84 rfl rfl
set_option maxRecDepth 20000 in
set_option maxHeartbeats 4000000 in
theorem l7Cut_spec (u : Unf) (l : List Int) (hw : WF u) (hl : l.length ≤ 1000000) (hin : ∀ e, e ∈ l → 0 ≤ e ∧ e < u.es.length) : ASpec Tryz.prog 85 [unfA u, .d (vI l)] [] (Pure1 (.d (vI (cutI u l)))) := by
  have hcl := hw.c
  unfold cutI
  refine ASpec.of Tryz.func85 rfl rfl fun C hC => ?_
  refine AC.seq ?_
  refine AC.region ?_
  refine AL.q (by exact h_boxF rfl rfl) rfl ?_
  refine AL.p (by exact as1 rfl) rfl ?_
  refine AL.nil ?_
  refine th_n ?_
  refine AC.seq ?_
  refine AC.region ?_
  refine AL.p (by exact as1 rfl) rfl ?_
  refine AL.nil ?_
  refine th_n ?_
  refine AC.seq ?_
  refine AC.seq ?_
  refine AC.region ?_
  refine AL.p (by exact g_fa_ref rfl rfl rfl rfl rfl rfl) rfl ?_
  refine AL.p (by exact g_load_ref rfl rfl rfl) rfl ?_
  refine AL.p (by exact g_len_view rfl rfl (by exact List.length_map _)) rfl ?_
  refine AL.p (by exact mv1 rfl) rfl ?_
  refine AL.nil ?_
  refine th_n ?_
  refine AC.block ?_
  refine AC.loop (ι := Nat) (fun k => ⟨38, 108, [(1, .d (vI l)), (2, .d (.ref (unfD u))), (5, .own 100 (cutK (cutQ u l) k).length), (9, .d (vCs u.cs)), (10, aI u.cs.length), (11, aI k)], [(100, some (.arr 3 1 (ints (cutK (cutQ u l) k))))]⟩) (fun k => k ≤ u.cs.length) (fun k => u.cs.length - k) (0) ?_ (Nat.zero_le _) ?_
  · exact (Weak.nilOwn (i := 5) (e := 3) (sz := 1) rfl (by decide)).trans (Weak.ren _ [(100, _)] hC rfl (by repeat (first | exact True.intro | refine And.intro ?_ ?_ | exact DLead.same | exact rfl | refine ⟨_, rfl, ?_⟩)) (by repeat (first | exact True.intro | refine And.intro ?_ ?_ | exact rfl | refine ⟨_, _, rfl, rfl, ?_⟩)) rfl rfl rfl)
  · intro k hk
    refine AC.seq ?_
    refine AC.region ?_
    refine AL.p (by exact g_cmp rfl rfl rfl) rfl ?_
    refine AL.nil ?_
    refine th_n ?_
    refine AC.seq ?_
    refine AC.condD rfl (fun h0 => ?_) (fun h0 => ?_)
    · refine AC.skip ?_
      refine th_n ?_
      refine AC.seq ?_
      refine AC.block ?_
      refine AC.seq ?_
      have hk1 : k < u.cs.length := by omega
      have hget := condsL_get hk1
      have hln := cutK_len (cutQ u l) k
      have hcv : cAt u (k : Int) = u.cs[k] := cAt_nat hk1
      have hKo := l7Used_spec u l (k : Int) hw hl hin
      have hHa := l1Has_spec l u.cs[k].by_ hl
      have hq : cutQ u l k = ((decide (u.cs[k].by_ < 0) || hasI l u.cs[k].by_) && !usedI u l (k : Int)) := by unfold cutQ; rw [hcv]
      obtain ⟨b1, hb1⟩ : ∃ b, b = hasI l u.cs[k].by_ := ⟨_, rfl⟩
      obtain ⟨b2, hb2⟩ : ∃ b, b = usedI u l (k : Int) := ⟨_, rfl⟩
      rw [← hb1] at hHa
      rw [← hb2] at hKo
      rw [← hb1, ← hb2] at hq
      refine AC.region ?_
      refine AL.p (by exact mv1 rfl) rfl ?_
      refine AL.p (by exact g_ia_view rfl rfl rfl rfl rfl (by rfl) (by assumption)) rfl ?_
      refine AL.p (by exact g_load_refN rfl rfl rfl rfl) rfl ?_
      refine AL.q (by exact h_alloc rfl) rfl ?_
      refine AL.p (by exact as1 rfl) rfl ?_
      refine AL.q (by exact h_store rfl rfl rfl rfl rfl rfl) rfl ?_
      refine AL.nil ?_
      refine th_n ?_
      refine AC.seq ?_
      refine AC.region ?_
      refine AL.p (by exact g_fa_ptr rfl rfl rfl rfl rfl) rfl ?_
      refine AL.p (by exact g_load_ptr rfl rfl rfl rfl rfl) rfl ?_
      refine AL.p (by exact g_cmp rfl rfl rfl) rfl ?_
      refine AL.p (by exact mv1 rfl) rfl ?_
      refine AL.caseG rfl rfl (fun h1 => ?_) (fun h1 => ?_)
      · refine AL.not rfl rfl rfl rfl rfl ?_
        refine AL.not rfl rfl rfl rfl rfl ?_
        refine AL.not rfl rfl rfl rfl rfl ?_
        refine AL.not rfl rfl rfl rfl rfl ?_
        refine AL.p (by exact g_pickT (r := .d _) rfl rfl) rfl ?_
        refine AL.p (by exact mv1 rfl) rfl ?_
        refine AL.yes rfl rfl rfl ?_
        refine AL.p (by exact g_load_refN rfl rfl rfl rfl) rfl ?_
        refine AL.yes rfl rfl rfl ?_
        refine AL.p (by exact mv1 rfl) rfl ?_
        refine AL.yes rfl rfl rfl ?_
        refine AL.p (by exact mv1 rfl) rfl ?_
        refine AL.yes rfl rfl rfl ?_
        refine AL.q (by exact h_pure en_l7Used rfl rfl (by repeat (first | exact rfl | exact DLead.same | refine ⟨_, _, rfl, ?_, ?_⟩ | refine ⟨_, rfl, ?_⟩)) hKo rfl) rfl ?_
        refine AL.yes rfl rfl rfl ?_
        refine AL.p (by exact g_not rfl) rfl ?_
        refine AL.p (by exact g_pickT (r := .d _) rfl rfl) rfl ?_
        refine AL.nil ?_
        refine th_n ?_
        refine AC.condB rfl (fun h2 => ?_) (fun h2 => ?_)
        · refine AC.region ?_
          refine AL.p (by exact mv2 rfl) rfl ?_
          refine AL.p (by exact mv1 rfl) rfl ?_
          refine AL.q (by exact h_litF rfl rfl rfl rfl rfl rfl rfl rfl) rfl ?_
          refine AL.q (by exact h_appendI (cutK (cutQ u l) k) [(k : Int)] (.own rfl rfl (ints_len _).symm) (.view rfl) (by simp; omega) (by simp)) rfl ?_
          refine AL.p (by exact as2 rfl) rfl ?_
          refine AL.nil ?_
          refine ib_n ?_
          refine th_n ?_
          refine AC.region ?_
          refine AL.p (by exact g_arith rfl rfl rfl (by exact wrap_i64 (by omega))) rfl ?_
          refine AL.p (by exact mv1 rfl) rfl ?_
          refine AL.nil ?_
          refine th_n ?_
          rw [decide_eq_true h1] at hq
          have e := cutK_t (c1 hq h2)
          exact ⟨k + 1, by omega, by omega, Weak.ren _ [(100, _)] hC rfl (by rw [e]; repeat (first | exact True.intro | refine And.intro ?_ ?_ | exact DLead.same | exact rfl | refine ⟨_, rfl, ?_⟩)) (by rw [e]; repeat (first | exact True.intro | refine And.intro ?_ ?_ | exact rfl | refine ⟨_, _, rfl, rfl, ?_⟩)) rfl rfl rfl⟩
        · refine AC.skip ?_
          refine ib_n ?_
          refine th_n ?_
          refine AC.region ?_
          refine AL.p (by exact g_arith rfl rfl rfl (by exact wrap_i64 (by omega))) rfl ?_
          refine AL.p (by exact mv1 rfl) rfl ?_
          refine AL.nil ?_
          refine th_n ?_
          rw [decide_eq_true h1] at hq
          have e := cutK_f (c2 hq h2)
          exact ⟨k + 1, by omega, by omega, Weak.ren _ [(100, _)] hC rfl (by rw [e]; repeat (first | exact True.intro | refine And.intro ?_ ?_ | exact DLead.same | exact rfl | refine ⟨_, rfl, ?_⟩)) (by rw [e]; repeat (first | exact True.intro | refine And.intro ?_ ?_ | exact rfl | refine ⟨_, _, rfl, rfl, ?_⟩)) rfl rfl rfl⟩
      · refine AL.yes rfl rfl rfl ?_
        refine AL.p (by exact mv1 rfl) rfl ?_
        refine AL.yes rfl rfl rfl ?_
        refine AL.p (by exact g_fa_ptr rfl rfl rfl rfl rfl) rfl ?_
        refine AL.yes rfl rfl rfl ?_
        refine AL.p (by exact g_load_ptr rfl rfl rfl rfl rfl) rfl ?_
        refine AL.yes rfl rfl rfl ?_
        refine AL.q (by exact h_pure en_l1Has rfl rfl (by repeat (first | exact rfl | exact DLead.same | refine ⟨_, _, rfl, ?_, ?_⟩)) hHa rfl) rfl ?_
        refine AL.p (by exact g_pickF (r := .d _) rfl rfl) rfl ?_
        refine AL.p (by exact mv1 rfl) rfl ?_
        refine AL.caseGB rfl rfl (fun h2 => ?_) (fun h2 => ?_)
        · refine AL.yes rfl rfl rfl ?_
          refine AL.p (by exact g_load_refN rfl rfl rfl rfl) rfl ?_
          refine AL.yes rfl rfl rfl ?_
          refine AL.p (by exact mv1 rfl) rfl ?_
          refine AL.yes rfl rfl rfl ?_
          refine AL.p (by exact mv1 rfl) rfl ?_
          refine AL.yes rfl rfl rfl ?_
          refine AL.q (by exact h_pure en_l7Used rfl rfl (by repeat (first | exact rfl | exact DLead.same | refine ⟨_, _, rfl, ?_, ?_⟩ | refine ⟨_, rfl, ?_⟩)) hKo rfl) rfl ?_
          refine AL.yes rfl rfl rfl ?_
          refine AL.p (by exact g_not rfl) rfl ?_
          refine AL.p (by exact g_pickT (r := .d _) rfl rfl) rfl ?_
          refine AL.nil ?_
          refine th_n ?_
          refine AC.condB rfl (fun h3 => ?_) (fun h3 => ?_)
          · refine AC.region ?_
            refine AL.p (by exact mv2 rfl) rfl ?_
            refine AL.p (by exact mv1 rfl) rfl ?_
            refine AL.q (by exact h_litF rfl rfl rfl rfl rfl rfl rfl rfl) rfl ?_
            refine AL.q (by exact h_appendI (cutK (cutQ u l) k) [(k : Int)] (.own rfl rfl (ints_len _).symm) (.view rfl) (by simp; omega) (by simp)) rfl ?_
            refine AL.p (by exact as2 rfl) rfl ?_
            refine AL.nil ?_
            refine ib_n ?_
            refine th_n ?_
            refine AC.region ?_
            refine AL.p (by exact g_arith rfl rfl rfl (by exact wrap_i64 (by omega))) rfl ?_
            refine AL.p (by exact mv1 rfl) rfl ?_
            refine AL.nil ?_
            refine th_n ?_
            rw [decide_eq_false h1] at hq
            have e := cutK_t (c3 hq h2 h3)
            exact ⟨k + 1, by omega, by omega, Weak.ren _ [(100, _)] hC rfl (by rw [e]; repeat (first | exact True.intro | refine And.intro ?_ ?_ | exact DLead.same | exact rfl | refine ⟨_, rfl, ?_⟩)) (by rw [e]; repeat (first | exact True.intro | refine And.intro ?_ ?_ | exact rfl | refine ⟨_, _, rfl, rfl, ?_⟩)) rfl rfl rfl⟩
          · refine AC.skip ?_
            refine ib_n ?_
            refine th_n ?_
            refine AC.region ?_
            refine AL.p (by exact g_arith rfl rfl rfl (by exact wrap_i64 (by omega))) rfl ?_
            refine AL.p (by exact mv1 rfl) rfl ?_
            refine AL.nil ?_
            refine th_n ?_
            rw [decide_eq_false h1] at hq
            have e := cutK_f (c4 hq h2 h3)
            exact ⟨k + 1, by omega, by omega, Weak.ren _ [(100, _)] hC rfl (by rw [e]; repeat (first | exact True.intro | refine And.intro ?_ ?_ | exact DLead.same | exact rfl | refine ⟨_, rfl, ?_⟩)) (by rw [e]; repeat (first | exact True.intro | refine And.intro ?_ ?_ | exact rfl | refine ⟨_, _, rfl, rfl, ?_⟩)) rfl rfl rfl⟩
        · refine AL.not rfl rfl rfl rfl rfl ?_
          refine AL.not rfl rfl rfl rfl rfl ?_
          refine AL.not rfl rfl rfl rfl rfl ?_
          refine AL.not rfl rfl rfl rfl rfl ?_
          refine AL.not rfl rfl rfl rfl rfl ?_
          refine AL.p (by exact g_pickF (r := .d _) rfl rfl) rfl ?_
          refine AL.nil ?_
          refine th_n ?_
          refine AC.condF rfl ?_
          refine AC.skip ?_
          refine ib_n ?_
          refine th_n ?_
          refine AC.region ?_
          refine AL.p (by exact g_arith rfl rfl rfl (by exact wrap_i64 (by omega))) rfl ?_
          refine AL.p (by exact mv1 rfl) rfl ?_
          refine AL.nil ?_
          refine th_n ?_
          rw [decide_eq_false h1] at hq
          have e := cutK_f (c5 hq h2)
          exact ⟨k + 1, by omega, by omega, Weak.ren _ [(100, _)] hC rfl (by rw [e]; repeat (first | exact True.intro | refine And.intro ?_ ?_ | exact DLead.same | exact rfl | refine ⟨_, rfl, ?_⟩)) (by rw [e]; repeat (first | exact True.intro | refine And.intro ?_ ?_ | exact rfl | refine ⟨_, _, rfl, rfl, ?_⟩)) rfl rfl rfl⟩
    · refine AC.exit ?_
      refine th_e ?_
      refine th_e ?_
      refine ib_y ?_
      refine th_n ?_
      refine AC.seq ?_
      have hkk : k = u.cs.length := by omega
      subst hkk
      refine AC.weak (Weak.freeze (i := 5) rfl rfl (Nat.le_of_eq (ints_len _).symm) (ints_all _)) ?_
      refine AC.region ?_
      refine AL.p (by exact mv1 rfl) rfl ?_
      refine AL.p (by exact as1 rfl) rfl ?_
      refine AL.nil ?_
      refine th_n ?_
      refine AC.ret ?_
      refine bq_r ?_
      exact ret1 rfl rfl
theorem en_l7Cut : Enters Tryz.prog 85 := enters_of Tryz.func85 rfl rfl
theorem h_appendBy (acc new : List UInt8) {s : ASt} {dst : Option Nat} {ty : Nat} {pos : String} {af : Array Edge} {gd : Option (Nat × Bool)} {x y : Operand} {f : Nat} {ids ids2 : List Nat} {gone : List (Nat × Option Chunk)}
    (hto : AppTo s x 5 1 (byteEls acc) ids gone) (harg : AppArg s y 1 (byteEls new) ids2) (h : (acc ++ new).length ≤ 100000000) (hnew : gone = [] → 0 < new.length) :
    NOp Tryz.prog (ids ++ ids2) s ⟨dst, .call { callee := .builtin .append, args := #[x, y], argTypes := #[64, 64] }, ty, pos, af, gd⟩ f ⟨.own f (acc ++ new).length, (f, some (.arr 5 1 (byteEls (acc ++ new)))) :: gone⟩ := by
  have := h_append (P := Tryz.prog) (s := s) (dst := dst) (ty := ty) (pos := pos) (af := af) (gd := gd) (x := x) (y := y) (f := f) (t := 64) (tx := 64) (k := (acc ++ new).length) rfl rfl rfl rfl rfl rfl hto harg (by simp) (by omega) (by show (acc ++ new).length * 1 ≤ _; omega) (fun h => by rw [List.length_map]; exact hnew h)
  rwa [← List.map_append] at this
theorem finK_nil (P : Nat) (u : Unf) : finK (finQ u []) P = List.replicate P 48 := by
  unfold finK
  refine List.ext_getElem? fun i => ?_
  rw [List.getElem?_map, List.getElem?_replicate]
  by_cases h : i < P
  · rw [List.getElem?_range h, if_pos h]; rfl
  · rw [if_neg h, List.getElem?_eq_none (by simp; omega)]; rfl
theorem rep_succ (k : Nat) : List.replicate (k + 1) (48 : UInt8) = List.replicate k 48 ++ [48] := List.replicate_succ'
set_option maxRecDepth 20000 in
set_option maxHeartbeats 4000000 in
theorem brFinal_spec (N : Net) (u : Unf) (L A : List ES) (s : ES) (hN : NetS N) (hW : WB u L A) (hp : PL N u) (hs : subU s u.es.length) : ASpec Tryz.prog 62 [.d (.ref (brD N u L A)), aU s] [] (Pure1 (aS (bstr (finK (finQ u (cutK (cutR u s) u.cs.length)) N.places.toNat)))) := by
  have hcl := hW.w.c
  have hel := hW.e
  have hpl := hN.p
  have hCu := brCut_spec N u L A s hW hs
  have hcin : ∀ c, c ∈ cutK (cutR u s) u.cs.length → 0 ≤ c ∧ c < u.cs.length := fun c hc => cutK_in hc
  have hcl2 := cutK_len (cutR u s) u.cs.length
  obtain ⟨ct, hct⟩ : ∃ ct, ct = cutK (cutR u s) u.cs.length := ⟨_, rfl⟩
  rw [← hct] at hCu hcin hcl2 ⊢
  obtain ⟨P, hP⟩ : ∃ P : Nat, N.places = (P : Int) := ⟨N.places.toNat, by omega⟩
  rw [hP, Int.toNat_natCast]
  refine ASpec.of Tryz.func62 rfl rfl fun C hC => ?_
  refine AC.seq ?_
  refine AC.region ?_
  refine AL.p (by exact as1 rfl) rfl ?_
  refine AL.nil ?_
  refine th_n ?_
  refine AC.seq ?_
  refine AC.region ?_
  refine AL.q (by exact h_lit rfl rfl rfl rfl rfl rfl rfl rfl) rfl ?_
  refine AL.p (by exact as2 rfl) rfl ?_
  refine AL.nil ?_
  refine th_n ?_
  refine AC.seq ?_
  refine AC.seq ?_
  refine AC.region ?_
  refine AL.p (by exact mv1 rfl) rfl ?_
  refine AL.p (by exact g_nilR rfl) rfl ?_
  refine AL.p (by exact g_fa_ref rfl rfl rfl rfl rfl rfl) rfl ?_
  refine AL.p (by exact g_fa_ref rfl rfl rfl rfl rfl rfl) rfl ?_
  refine AL.p (by exact g_load_ref rfl rfl rfl) rfl ?_
  refine AL.p (by exact mv1 rfl) rfl ?_
  refine AL.nil ?_
  refine th_n ?_
  refine AC.block ?_
  refine AC.loop (ι := Nat) (fun k => ⟨42, 108, [(0, .d (.ref (brD N u L A))), (1, aU s), (5, .own 100 k), (13, aI N.places), (14, aI k)], [(100, some (.arr 5 1 (byteEls (List.replicate k 48))))]⟩) (fun k => k ≤ P) (fun k => P - k) (0) ?_ (Nat.zero_le _) ?_
  · exact Weak.ren _ [(100, _)] hC rfl (by repeat (first | exact True.intro | refine And.intro ?_ ?_ | exact DLead.same | exact rfl | refine ⟨_, rfl, ?_⟩)) (by repeat (first | exact True.intro | refine And.intro ?_ ?_ | exact rfl | refine ⟨_, _, rfl, rfl, ?_⟩)) rfl rfl rfl
  · intro k hk
    refine AC.seq ?_
    refine AC.region ?_
    refine AL.p (by exact g_cmp rfl rfl rfl) rfl ?_
    refine AL.nil ?_
    refine th_n ?_
    refine AC.seq ?_
    refine AC.condD rfl (fun h0 => ?_) (fun h0 => ?_)
    · refine AC.skip ?_
      refine th_n ?_
      refine AC.seq ?_
      refine AC.block ?_
      have hk1 : k < P := by omega
      have hrl : (List.replicate k (48 : UInt8)).length = k := List.length_replicate
      refine AC.region ?_
      refine AL.p (by exact mv2 rfl) rfl ?_
      refine AL.q (by exact h_litF rfl rfl rfl rfl rfl rfl rfl rfl) rfl ?_
      refine AL.q (by exact h_appendBy (List.replicate k 48) [48] (.own rfl rfl (by rw [List.length_map, hrl])) (.view rfl) (by rw [List.length_append, hrl]; show k + 1 ≤ _; omega) (by simp)) rfl ?_
      refine AL.p (by exact as2 rfl) rfl ?_
      refine AL.nil ?_
      refine ib_n ?_
      refine th_n ?_
      refine AC.region ?_
      refine AL.p (by exact g_arith rfl rfl rfl (by exact wrap_i64 (by omega))) rfl ?_
      refine AL.p (by exact mv1 rfl) rfl ?_
      refine AL.nil ?_
      refine th_n ?_
      have hl5 : (List.replicate k (48 : UInt8) ++ [48]).length = k + 1 := by rw [List.length_append, hrl]; rfl
      exact ⟨k + 1, by omega, by omega, Weak.ren _ [(100, _)] hC rfl (by rw [← hl5]; repeat (first | exact True.intro | refine And.intro ?_ ?_ | exact DLead.same | exact DLead.eqI (by omega) | exact rfl | refine ⟨_, rfl, ?_⟩)) (by rw [rep_succ]; repeat (first | exact True.intro | refine And.intro ?_ ?_ | exact rfl | refine ⟨_, _, rfl, rfl, ?_⟩)) rfl rfl rfl⟩
    · refine AC.exit ?_
      refine th_e ?_
      refine th_e ?_
      refine ib_y ?_
      refine th_n ?_
      refine AC.seq ?_
      refine AC.seq ?_
      have hkP : k = P := by omega
      subst hkP
      refine AC.region ?_
      refine AL.p (by exact mv1 rfl) rfl ?_
      refine AL.p (by exact mv1 rfl) rfl ?_
      refine AL.q (by exact h_pure en_brCut rfl rfl (by repeat (first | exact rfl | exact DLead.same | refine ⟨_, _, rfl, ?_, ?_⟩)) hCu rfl) rfl ?_
      refine AL.p (by exact g_len_view rfl rfl (by exact List.length_map _)) rfl ?_
      refine AL.p (by exact mv1 rfl) rfl ?_
      refine AL.nil ?_
      refine th_n ?_
      refine AC.block ?_
      refine AC.loop (ι := Nat) (fun q => ⟨42, 108, [(0, .d (.ref (brD N u L A))), (1, aU s), (5, .own 100 k), (22, .d (vI ct)), (23, aI ct.length), (24, aI q)], [(100, some (.arr 5 1 (byteEls (finK (finQ u (ct.take q)) k))))]⟩) (fun q => q ≤ ct.length) (fun q => ct.length - q) (0) ?_ (Nat.zero_le _) ?_
      · exact Weak.ren _ [(100, _)] hC rfl (by repeat (first | exact True.intro | refine And.intro ?_ ?_ | exact DLead.same | exact rfl | refine ⟨_, rfl, ?_⟩)) (by rw [List.take_zero, finK_nil]; repeat (first | exact True.intro | refine And.intro ?_ ?_ | exact rfl | refine ⟨_, _, rfl, rfl, ?_⟩)) rfl rfl rfl
      · intro q hq
        refine AC.seq ?_
        refine AC.region ?_
        refine AL.p (by exact g_cmp rfl rfl rfl) rfl ?_
        refine AL.nil ?_
        refine th_n ?_
        refine AC.seq ?_
        refine AC.condD rfl (fun h1 => ?_) (fun h1 => ?_)
        · refine AC.skip ?_
          refine th_n ?_
          refine AC.seq ?_
          refine AC.block ?_
          refine AC.seq ?_
          have hq1 : q < ct.length := by omega
          have hgetq := ints_at hq1
          have hci := hcin _ (List.getElem_mem hq1)
          obtain ⟨c, hc⟩ : ∃ c : Nat, ct[q] = (c : Int) := ⟨ct[q].toNat, by omega⟩
          have hcc : c < u.cs.length := by omega
          have hgetc := condsL_get hcc
          have hcv : cAt u (c : Int) = u.cs[c] := cAt_nat hcc
          have hpc := hp _ (List.getElem_mem hcc)
          obtain ⟨p, hpp⟩ : ∃ p : Nat, u.cs[c].place = (p : Int) := ⟨u.cs[c].place.toNat, by omega⟩
          have hpk : p < k := by omega
          have hfs := finK_set (P := k) (p := p) hq1 (by rw [hc, hcv, hpp])
          have hfl : (finK (finQ u (ct.take q)) k).length = k := finK_len _ _
          have hgb := byteEls_get (m := finK (finQ u (ct.take q)) k) (k := p) (by omega)
          rw [hc] at hgetq
          rw [hpp] at hgetc
          refine AC.region ?_
          refine AL.p (by exact g_ia_view rfl rfl rfl rfl rfl (by rfl) (by assumption)) rfl ?_
          refine AL.p (by exact g_load_ref rfl rfl rfl) rfl ?_
          refine AL.p (by exact as1 rfl) rfl ?_
          refine AL.nil ?_
          refine th_n ?_
          refine AC.region ?_
          refine AL.p (by exact mv2 rfl) rfl ?_
          refine AL.p (by exact mv1 rfl) rfl ?_
          refine AL.p (by exact g_nilR rfl) rfl ?_
          refine AL.p (by exact g_fa_ref rfl rfl rfl rfl rfl rfl) rfl ?_
          refine AL.p (by exact g_fa_ref rfl rfl rfl rfl rfl rfl) rfl ?_
          refine AL.p (by exact g_load_ref rfl rfl rfl) rfl ?_
          refine AL.p (by exact mv1 rfl) rfl ?_
          refine AL.p (by exact g_ia_view rfl rfl rfl rfl rfl (by rfl) (by assumption)) rfl ?_
          refine AL.p (by exact g_fa_ref rfl rfl rfl rfl rfl rfl) rfl ?_
          refine AL.p (by exact g_load_ref rfl rfl rfl) rfl ?_
          refine AL.p (by exact g_ia_own rfl rfl rfl rfl rfl (by rfl) (by omega) (by exact Nat.mul_one _)) rfl ?_
          refine AL.q (by exact h_store_arr1 rfl rfl rfl rfl (by exact .same) (by assumption)) rfl ?_
          refine AL.nil ?_
          refine ib_n ?_
          refine th_n ?_
          refine AC.region ?_
          refine AL.p (by exact g_arith rfl rfl rfl (by exact wrap_i64 (by omega))) rfl ?_
          refine AL.p (by exact mv1 rfl) rfl ?_
          refine AL.nil ?_
          refine th_n ?_
          exact ⟨q + 1, by omega, by omega, Weak.ren _ [(100, _)] hC rfl (by repeat (first | exact True.intro | refine And.intro ?_ ?_ | exact DLead.same | exact rfl | refine ⟨_, rfl, ?_⟩)) (by rw [← hfs, ← byteEls_set]; repeat (first | exact True.intro | refine And.intro ?_ ?_ | exact rfl | refine ⟨_, _, rfl, rfl, ?_⟩)) rfl rfl rfl⟩
        · refine AC.exit ?_
          refine th_e ?_
          refine th_e ?_
          refine ib_y ?_
          refine th_n ?_
          refine AC.seq ?_
          have hqq : q = ct.length := by omega
          rw [hqq, List.take_length]
          have hfl : (finK (finQ u ct) k).length = k := finK_len _ _
          refine AC.region ?_
          refine AL.p (by exact mv2 rfl) rfl ?_
          refine AL.p (by exact g_strOfBytes (l := finK (finQ u ct) k) rfl rfl rfl rfl rfl rfl hfl.symm) rfl ?_
          refine AL.p (by exact as1 rfl) rfl ?_
          refine AL.nil ?_
          refine th_n ?_
          refine AC.ret ?_
          refine bq_r ?_
          exact ret1 rfl rfl
theorem en_brFinal : Enters Tryz.prog 62 := enters_of Tryz.func62 rfl rfl
set_option maxRecDepth 20000 in
set_option maxHeartbeats 4000000 in
theorem l7Mark_spec (N : Net) (u : Unf) (l : List Int) (hN : NetS N) (hw : WF u) (hl : l.length ≤ 1000000) (hin : ∀ e, e ∈ l → 0 ≤ e ∧ e < u.es.length) : ASpec Tryz.prog 60 [netA N, unfA u, .d (vI l)] [] (Pure1 (aS (bstr (finI N u l)))) := by
  have hcl := hw.c
  have hpl := hN.p
  have hCu := l7Cut_spec u l hw hl hin
  have hcin : ∀ c, c ∈ cutI u l → 0 ≤ c ∧ c < u.cs.length := fun c hc => cutK_in hc
  have hcl2 : (cutI u l).length ≤ u.cs.length := cutK_len (cutQ u l) u.cs.length
  unfold finI
  obtain ⟨ct, hct⟩ : ∃ ct, ct = cutI u l := ⟨_, rfl⟩
  rw [← hct] at hCu hcin hcl2 ⊢
  have hPl := l7Places_spec u ct hw (by omega) hcin
  have hpll := placesI_len u ct
  have hfp := fin_places u ct
  obtain ⟨pl, hple⟩ : ∃ pl, pl = placesI u ct := ⟨_, rfl⟩
  rw [← hple] at hPl hpll
  simp only [← hple] at hfp
  obtain ⟨P, hP⟩ : ∃ P : Nat, N.places = (P : Int) := ⟨N.places.toNat, by omega⟩
  rw [hP, Int.toNat_natCast]
  refine ASpec.of Tryz.func60 rfl rfl fun C hC => ?_
  refine AC.seq ?_
  refine AC.region ?_
  refine AL.q (by exact h_boxF rfl rfl) rfl ?_
  refine AL.q (by exact h_boxF rfl rfl) rfl ?_
  refine AL.p (by exact as1 rfl) rfl ?_
  refine AL.nil ?_
  refine th_n ?_
  refine AC.seq ?_
  refine AC.drawn' mixed_ok [[], [], [], [1,2], [0,1,2,3], [0,1,2,3,4]] (by decide) ?_
  refine DF.op 0 [] 6 rfl rfl rfl (.free rfl (NOp.of (by exact g_load_refN rfl rfl rfl rfl))) rfl ?_
  refine DF.op 1 [] 6 rfl rfl rfl (.free rfl (NOp.of (by exact g_load_refN rfl rfl rfl rfl))) rfl ?_
  refine DF.op 2 [] 6 rfl rfl rfl (.free rfl (NOp.of (by exact mv1 rfl))) rfl ?_
  refine DF.op 3 [1,2] 6 rfl rfl rfl (.free rfl (by exact h_pure en_l7Cut rfl rfl (by repeat (first | exact rfl | exact DLead.same | refine ⟨_, _, rfl, ?_, ?_⟩ | refine ⟨_, rfl, ?_⟩)) hCu rfl)) rfl ?_
  refine DF.op 4 [0,1,2,3] 6 rfl rfl rfl (.free rfl (by exact h_pure en_l7Places rfl rfl (by repeat (first | exact rfl | exact DLead.same | refine ⟨_, _, rfl, ?_, ?_⟩ | refine ⟨_, rfl, ?_⟩)) hPl rfl)) rfl ?_
  refine DF.op 5 [0,1,2,3,4] 6 rfl rfl rfl (.free rfl (NOp.of (by exact as1 rfl))) rfl ?_
  refine DF.fin (ps := [(0, 1), (0, 2), (0, 3), (1, 0), (1, 2), (2, 0), (2, 1), (3, 0)]) 6 rfl (by decide +kernel) (by decide +kernel) (by rfl) ?_
  refine th_n ?_
  refine AC.seq ?_
  refine AC.region ?_
  refine AL.p (by exact as1 rfl) rfl ?_
  refine AL.nil ?_
  refine th_n ?_
  refine AC.seq ?_
  refine AC.seq ?_
  refine AC.region ?_
  refine AL.p (by exact as1 rfl) rfl ?_
  refine AL.nil ?_
  refine th_n ?_
  refine AC.block ?_
  refine AC.loop (ι := Nat) (fun k => ⟨29, 108, [(3, .d (.ref (netD N))), (7, .d (vI pl)), (8, aS (bstr (finK (finQ u ct) k))), (9, aI k)], []⟩) (fun k => k ≤ P) (fun k => P - k) (0) ?_ (Nat.zero_le _) ?_
  · exact Weak.ren _ [] hC rfl (by repeat (first | exact True.intro | refine And.intro ?_ ?_ | exact DLead.same)) (by repeat (exact True.intro)) rfl rfl rfl
  · intro k hk
    refine AC.seq ?_
    refine AC.seq ?_
    refine AC.region ?_
    refine AL.p (by exact mv1 rfl) rfl ?_
    refine AL.p (by exact g_fa_ref rfl rfl rfl rfl rfl rfl) rfl ?_
    refine AL.p (by exact g_load_ref rfl rfl rfl) rfl ?_
    refine AL.p (by exact g_cmp rfl rfl rfl) rfl ?_
    refine AL.nil ?_
    refine th_n ?_
    refine AC.condD rfl (fun h0 => ?_) (fun h0 => ?_)
    · refine AC.skip ?_
      refine th_n ?_
      refine AC.seq ?_
      refine AC.block ?_
      refine AC.seq ?_
      have hk1 : k < P := by omega
      have hHa := l1Has_spec pl (k : Int) (by omega)
      rw [hfp k] at hHa
      have hfl := finK_len (finQ u ct) k
      have hfs := bstr_size (finK (finQ u ct) k)
      have hsu := finK_succ (finQ u ct) k
      obtain ⟨b, hb⟩ : ∃ b, b = finQ u ct k := ⟨_, rfl⟩
      rw [← hb] at hHa hsu
      have hz1 : (ByteArray.mk #[49]).size = 1 := rfl
      have hz0 : (ByteArray.mk #[48]).size = 1 := rfl
      refine AC.region ?_
      refine AL.p (by exact mv1 rfl) rfl ?_
      refine AL.p (by exact mv1 rfl) rfl ?_
      refine AL.q (by exact h_pure en_l1Has rfl rfl (by repeat (first | exact rfl | exact DLead.same | refine ⟨_, _, rfl, ?_, ?_⟩)) hHa rfl) rfl ?_
      refine AL.nil ?_
      refine th_n ?_
      refine AC.condB rfl (fun h1 => ?_) (fun h1 => ?_)
      · refine AC.region ?_
        refine AL.p (by exact mv1 rfl) rfl ?_
        refine AL.p (by exact g_sadd rfl rfl (by omega)) rfl ?_
        refine AL.p (by exact as1 rfl) rfl ?_
        refine AL.nil ?_
        refine ib_n ?_
        refine th_n ?_
        refine AC.region ?_
        refine AL.p (by exact mv1 rfl) rfl ?_
        refine AL.p (by exact g_arith rfl rfl rfl (by exact wrap_i64 (by omega))) rfl ?_
        refine AL.p (by exact as1 rfl) rfl ?_
        refine AL.nil ?_
        refine th_n ?_
        (rw [if_pos h1] at hsu; exact ⟨k + 1, by omega, by omega, Weak.ren _ [] hC rfl (by rw [hsu, ← bstr_append]; repeat (first | exact True.intro | refine And.intro ?_ ?_ | exact DLead.same)) (by repeat (exact True.intro)) rfl rfl rfl⟩)
      · refine AC.region ?_
        refine AL.p (by exact mv1 rfl) rfl ?_
        refine AL.p (by exact g_sadd rfl rfl (by omega)) rfl ?_
        refine AL.p (by exact as1 rfl) rfl ?_
        refine AL.nil ?_
        refine ib_n ?_
        refine th_n ?_
        refine AC.region ?_
        refine AL.p (by exact mv1 rfl) rfl ?_
        refine AL.p (by exact g_arith rfl rfl rfl (by exact wrap_i64 (by omega))) rfl ?_
        refine AL.p (by exact as1 rfl) rfl ?_
        refine AL.nil ?_
        refine th_n ?_
        (rw [if_neg (bne_t h1)] at hsu; exact ⟨k + 1, by omega, by omega, Weak.ren _ [] hC rfl (by rw [hsu, ← bstr_append]; repeat (first | exact True.intro | refine And.intro ?_ ?_ | exact DLead.same)) (by repeat (exact True.intro)) rfl rfl rfl⟩)
    · refine AC.exit ?_
      refine th_e ?_
      refine th_e ?_
      refine ib_y ?_
      refine th_n ?_
      refine AC.seq ?_
      refine AC.region ?_
      refine AL.p (by exact mv1 rfl) rfl ?_
      refine AL.p (by exact as1 rfl) rfl ?_
      refine AL.nil ?_
      refine th_n ?_
      refine AC.ret ?_
      refine bq_r ?_
      have hkP : k = P := by omega
      subst hkP
      exact ret1 rfl rfl
theorem en_l7Mark : Enters Tryz.prog 60 := enters_of Tryz.func60 rfl rfl
end Go.Proofs.YtlpafiiaminjkaaGreat

set_option linter.all false
set_option maxRecDepth 20000
namespace Go.Proofs.YtlpafiiaminjkaaGreat
open Go.RowKit

set_option maxHeartbeats 1000000 in
theorem l7List_spec (N : Net) (m : List UInt8) (u : Unf) (l : List Int) (hB : NetL N) (hm : m.length ≤ 2000000) (hu : UnfL u) (hl : l.length ≤ 2000000) : ASpec Tryz.prog 58 [netA N, aS (bstr m), unfA u, .d (vI l)] [] (Pure1 (aT (goodU N m u && rising l 0 ((u.es.length : Int) - 1)))) := by
  have hG := l7Good_spec N m u hB hm hu
  have hR := l1Rising_spec l 0 ((u.es.length : Int) - 1) hl
  have hue := hu.e
  obtain ⟨g, hg⟩ : ∃ g, g = goodU N m u := ⟨_, rfl⟩
  obtain ⟨r, hr⟩ : ∃ r, r = rising l 0 ((u.es.length : Int) - 1) := ⟨_, rfl⟩
  rw [← hg] at hG ⊢
  rw [← hr] at hR ⊢
  refine ASpec.of Tryz.func58 rfl rfl fun C hC => ?_
  refine AC.seq ?_
  refine AC.region ?_
  refine AL.q (by exact h_boxF rfl rfl) rfl ?_
  refine AL.q (by exact h_boxF rfl rfl) rfl ?_
  refine AL.p (by exact as1 rfl) rfl ?_
  refine AL.nil ?_
  refine th_n ?_
  refine AC.seq ?_
  refine AC.region ?_
  refine AL.p (by exact g_load_refN rfl rfl rfl rfl) rfl ?_
  refine AL.p (by exact mv1 rfl) rfl ?_
  refine AL.p (by exact g_load_refN rfl rfl rfl rfl) rfl ?_
  refine AL.q (by exact h_pure en_l7Good rfl rfl (by repeat (first | exact rfl | exact DLead.same | refine ⟨_, _, rfl, ?_, ?_⟩ | refine ⟨_, rfl, ?_⟩)) hG rfl) rfl ?_
  refine AL.p (by exact mv1 rfl) rfl ?_
  refine AL.caseGB rfl rfl (fun h0 => ?_) (fun h0 => ?_)
  · refine AL.yes rfl rfl rfl ?_
    refine AL.p (by exact mv1 rfl) rfl ?_
    refine AL.yes rfl rfl rfl ?_
    refine AL.p (by exact g_fa_ref rfl rfl rfl rfl rfl rfl) rfl ?_
    refine AL.yes rfl rfl rfl ?_
    refine AL.p (by exact g_load_ref rfl rfl rfl) rfl ?_
    refine AL.yes rfl rfl rfl ?_
    refine AL.p (by exact g_len_view rfl rfl (by exact List.length_map _)) rfl ?_
    refine AL.yes rfl rfl rfl ?_
    refine AL.p (by exact g_arith rfl rfl rfl (by exact wrap_i64 (by omega))) rfl ?_
    refine AL.yes rfl rfl rfl ?_
    refine AL.q (by exact h_pure en_l1Rising rfl rfl (by repeat (first | exact rfl | exact DLead.same | refine ⟨_, _, rfl, ?_, ?_⟩)) hR rfl) rfl ?_
    refine AL.p (by exact g_pickT (r := .d _) rfl rfl) rfl ?_
    refine AL.p (by exact as1 rfl) rfl ?_
    refine AL.nil ?_
    refine th_n ?_
    refine AC.ret ?_
    refine bq_r ?_
    exact ret1 rfl (by rw [h0]; rfl)
  · refine AL.not rfl rfl rfl rfl rfl ?_
    refine AL.not rfl rfl rfl rfl rfl ?_
    refine AL.not rfl rfl rfl rfl rfl ?_
    refine AL.not rfl rfl rfl rfl rfl ?_
    refine AL.not rfl rfl rfl rfl rfl ?_
    refine AL.not rfl rfl rfl rfl rfl ?_
    refine AL.p (by exact g_pickF (r := .d _) rfl rfl) rfl ?_
    refine AL.p (by exact as1 rfl) rfl ?_
    refine AL.nil ?_
    refine th_n ?_
    refine AC.ret ?_
    refine bq_r ?_
    exact ret1 rfl (by rw [h0]; rfl)
theorem en_l7List : Enters Tryz.prog 58 := enters_of Tryz.func58 rfl rfl
set_option maxHeartbeats 1000000 in
theorem l7Config_spec (u : Unf) (l : List Int) (hw : WF u) (hl : l.length ≤ 1000000) (hin : ∀ e, e ∈ l → 0 ≤ e ∧ e < u.es.length) : ASpec Tryz.prog 59 [unfA u, .d (vI l)] [] (Pure1 (aT (confI u l))) := by
  have hP := l7Past_spec u l hw hl (fun e he => (hin e he).2)
  have hpl : (pastI u l).length ≤ 1000000 := by
    have := flagL_len (pastFl u l) u.es.length
    have := hw.e
    unfold pastI; omega
  have hS := l1Same_spec (pastI u l) l hpl hl
  have hF := l7Free_spec u l hw hl hin
  obtain ⟨p, hp⟩ : ∃ p, p = pastI u l := ⟨_, rfl⟩
  obtain ⟨f, hf⟩ : ∃ f, f = freeI u l := ⟨_, rfl⟩
  have hJ : confI u l = (decide (p = l) && f) := by rw [hp, hf]; rfl
  rw [← hp] at hP hS
  rw [← hf] at hF
  refine ASpec.of Tryz.func59 rfl rfl fun C hC => ?_
  refine AC.seq ?_
  refine AC.region ?_
  refine AL.q (by exact h_boxF rfl rfl) rfl ?_
  refine AL.p (by exact as1 rfl) rfl ?_
  refine AL.nil ?_
  refine th_n ?_
  refine AC.seq ?_
  refine AC.region ?_
  refine AL.p (by exact g_load_refN rfl rfl rfl rfl) rfl ?_
  refine AL.p (by exact mv1 rfl) rfl ?_
  refine AL.q (by exact h_pure en_l7Past rfl rfl (by repeat (first | exact rfl | exact DLead.same | refine ⟨_, _, rfl, ?_, ?_⟩ | refine ⟨_, rfl, ?_⟩)) hP rfl) rfl ?_
  refine AL.p (by exact mv1 rfl) rfl ?_
  refine AL.q (by exact h_pure en_l1Same rfl rfl (by repeat (first | exact rfl | exact DLead.same | refine ⟨_, _, rfl, ?_, ?_⟩)) hS rfl) rfl ?_
  refine AL.p (by exact mv1 rfl) rfl ?_
  refine AL.caseG rfl rfl (fun h0 => ?_) (fun h0 => ?_)
  · refine AL.yes rfl rfl rfl ?_
    refine AL.p (by exact g_load_refN rfl rfl rfl rfl) rfl ?_
    refine AL.yes rfl rfl rfl ?_
    refine AL.p (by exact mv1 rfl) rfl ?_
    refine AL.yes rfl rfl rfl ?_
    refine AL.q (by exact h_pure en_l7Free rfl rfl (by repeat (first | exact rfl | exact DLead.same | refine ⟨_, _, rfl, ?_, ?_⟩ | refine ⟨_, rfl, ?_⟩)) hF rfl) rfl ?_
    refine AL.p (by exact g_pickT (r := .d _) rfl rfl) rfl ?_
    refine AL.p (by exact as1 rfl) rfl ?_
    refine AL.nil ?_
    refine th_n ?_
    refine AC.ret ?_
    refine bq_r ?_
    exact ret1 rfl (by rw [hJ, decide_eq_true h0]; rfl)
  · refine AL.not rfl rfl rfl rfl rfl ?_
    refine AL.not rfl rfl rfl rfl rfl ?_
    refine AL.not rfl rfl rfl rfl rfl ?_
    refine AL.p (by exact g_pickF (r := .d _) rfl rfl) rfl ?_
    refine AL.p (by exact as1 rfl) rfl ?_
    refine AL.nil ?_
    refine th_n ?_
    refine AC.ret ?_
    refine bq_r ?_
    exact ret1 rfl (by rw [hJ, decide_eq_false h0]; rfl)
theorem en_l7Config : Enters Tryz.prog 59 := enters_of Tryz.func59 rfl rfl
def listB (N : Net) (m : List UInt8) (u : Unf) (l : List Int) : Bool := goodU N m u && rising l 0 ((u.es.length : Int) - 1)
def confR (N : Net) (m : List UInt8) (u : Unf) (l : List Int) : Bool := listB N m u l && confI u l
theorem list_in {u : Unf} {l : List Int} (h : rising l 0 ((u.es.length : Int) - 1) = true) : ∀ e, e ∈ l → 0 ≤ e ∧ e < u.es.length := fun e he => by have := rising_in h e he; omega
theorem listB_iff {N : Net} {m : List UInt8} {u : Unf} {l : List Int} (h : listB N m u l = true) : Good N m u ∧ rising l 0 ((u.es.length : Int) - 1) = true ∧ l.length ≤ 60 := by
  unfold listB at h
  rw [Bool.and_eq_true] at h
  have hg := goodU_iff h.1
  have := rising_len h.2
  have := hg.e
  exact ⟨hg, h.2, by omega⟩
theorem iIsConf_f (N : Net) (m : List UInt8) (u : Unf) (l : List Int) (hB : NetL N) (hm : m.length ≤ 2000000) (hu : UnfL u) (hl : l.length ≤ 2000000) (hg : goodU N m u = false) : ASpec Tryz.prog 38 [netA N, aS (bstr m), unfA u, .d (vI l)] [] (Pure1 (.tup [aT (confR N m u l), aT (listB N m u l)])) := by
  have hS := branchingOf_spec N m u hB hm hu
  have hue := hu.e
  rw [brRes_f hg] at hS
  have hl0 : listB N m u l = false := by unfold listB; rw [hg]; rfl
  have hc0 : confR N m u l = false := by unfold confR; rw [hl0]; rfl
  refine ASpec.of Tryz.func38 rfl rfl fun C hC => ?_
  refine AC.seq ?_
  refine AC.region ?_
  refine AL.q (by exact h_boxF rfl rfl) rfl ?_
  refine AL.q (by exact h_boxF rfl rfl) rfl ?_
  refine AL.p (by exact as1 rfl) rfl ?_
  refine AL.p (by exact as1 rfl) rfl ?_
  refine AL.nil ?_
  refine th_n ?_
  refine AC.seq ?_
  refine AC.region ?_
  refine AL.p (by exact g_load_refN rfl rfl rfl rfl) rfl ?_
  refine AL.p (by exact mv1 rfl) rfl ?_
  refine AL.p (by exact g_load_refN rfl rfl rfl rfl) rfl ?_
  refine AL.q (by exact h_fun (cs := []) en_branchingOf rfl rfl (by repeat (first | exact rfl | exact DLead.same | refine ⟨_, _, rfl, ?_, ?_⟩ | refine ⟨_, rfl, ?_⟩)) (by repeat (exact True.intro)) hS rfl rfl rfl rfl) rfl ?_
  refine AL.p (by exact mv5 rfl) rfl ?_
  refine AL.p (by exact g_extract (r := .dead) rfl rfl) rfl ?_
  refine AL.p (by exact g_extract (r := .d _) rfl rfl) rfl ?_
  refine AL.p (by exact as9 rfl) rfl ?_
  refine AL.p (by exact as1 rfl) rfl ?_
  refine AL.nil ?_
  refine th_n ?_
  refine AC.seq ?_
  refine AC.seq ?_
  refine AC.region ?_
  refine AL.p (by exact mv1 rfl) rfl ?_
  refine AL.p (by exact g_not rfl) rfl ?_
  refine AL.p (by exact mv1 rfl) rfl ?_
  refine AL.caseGB rfl rfl (fun h0 => ?_) (fun h0 => ?_)
  · refine AL.not rfl rfl rfl rfl rfl ?_
    refine AL.not rfl rfl rfl rfl rfl ?_
    refine AL.not rfl rfl rfl rfl rfl ?_
    refine AL.not rfl rfl rfl rfl rfl ?_
    refine AL.not rfl rfl rfl rfl rfl ?_
    refine AL.not rfl rfl rfl rfl rfl ?_
    refine AL.p (by exact g_pickT (r := .d _) rfl rfl) rfl ?_
    refine AL.nil ?_
    refine th_n ?_
    refine AC.condT rfl ?_
    refine AC.seq ?_
    refine AC.region ?_
    refine AL.p (by exact as1 rfl) rfl ?_
    refine AL.p (by exact as1 rfl) rfl ?_
    refine AL.nil ?_
    refine th_n ?_
    refine AC.ret ?_
    refine th_r ?_
    refine bq_r ?_
    exact ret2 rfl (by rw [hc0]) (by rw [hl0])
  · refine AL.yes rfl rfl rfl ?_
    refine AL.p (by exact mv1 rfl) rfl ?_
    refine AL.yes rfl rfl rfl ?_
    refine AL.p (by exact g_fa_ref rfl rfl rfl rfl rfl rfl) rfl ?_
    refine AL.yes rfl rfl rfl ?_
    refine AL.p (by exact g_load_ref rfl rfl rfl) rfl ?_
    refine AL.yes rfl rfl rfl ?_
    refine AL.p (by exact g_len_view rfl rfl (by exact List.length_map _)) rfl ?_
    refine AL.yes rfl rfl rfl ?_
    refine AL.q (by exact h_pure en_isIncreasing rfl rfl (by repeat (first | exact rfl | exact DLead.same | refine ⟨_, _, rfl, ?_, ?_⟩)) (isIncreasing_spec _ _ (by assumption) (by omega)) rfl) rfl ?_
    refine AL.yes rfl rfl rfl ?_
    refine AL.p (by exact g_not rfl) rfl ?_
    refine AL.p (by exact g_pickF (r := .d _) rfl rfl) rfl ?_
    refine AL.nil ?_
    refine th_n ?_
    refine AC.condB rfl (fun h1 => ?_) (fun h1 => ?_)
    · refine AC.seq ?_
      refine AC.region ?_
      refine AL.p (by exact as1 rfl) rfl ?_
      refine AL.p (by exact as1 rfl) rfl ?_
      refine AL.nil ?_
      refine th_n ?_
      refine AC.ret ?_
      refine th_r ?_
      refine bq_r ?_
      exact ret2 rfl (by rw [hc0]) (by rw [hl0])
    · refine AC.skip ?_
      refine th_n ?_
      refine AC.seq ?_
      exact absurd h0 (by decide)
set_option maxHeartbeats 2000000 in
theorem iIsConf_t (N : Net) (m : List UInt8) (u : Unf) (l : List Int) (hB : NetL N) (hm : m.length ≤ 2000000) (hu : UnfL u) (hl : l.length ≤ 2000000) (hg : goodU N m u = true) : ASpec Tryz.prog 38 [netA N, aS (bstr m), unfA u, .d (vI l)] [] (Pure1 (.tup [aT (confR N m u l), aT (listB N m u l)])) := by
  have hS := branchingOf_spec N m u hB hm hu
  have hue := hu.e
  have hT := (goodU_iff hg).tru
  have hge := (goodU_iff hg).e
  rw [brRes_t hg] at hS
  have hl0 : listB N m u l = rising l 0 ((u.es.length : Int) - 1) := by unfold listB; rw [hg]; rfl
  have hc0 : confR N m u l = (rising l 0 ((u.es.length : Int) - 1) && confI u l) := by unfold confR; rw [hl0]
  obtain ⟨L, hL⟩ : ∃ L, L = locL N m u := ⟨_, rfl⟩
  obtain ⟨A, hA⟩ : ∃ A, A = agaA N m u := ⟨_, rfl⟩
  rw [← hL, ← hA] at hT hS
  have hIn := isIncreasing_spec l u.es.length hl (by omega)
  have hri : ∀ b, rising l 0 ((u.es.length : Int) - 1) = b → b = true → rising l 0 ((u.es.length : Int) - 1) = true := fun b h1 h2 => h1.trans h2
  obtain ⟨r, hr⟩ : ∃ r, r = rising l 0 ((u.es.length : Int) - 1) := ⟨_, rfl⟩
  rw [← hr] at hIn hl0 hc0 hri
  refine ASpec.of Tryz.func38 rfl rfl fun C hC => ?_
  refine AC.seq ?_
  refine AC.region ?_
  refine AL.q (by exact h_boxF rfl rfl) rfl ?_
  refine AL.q (by exact h_boxF rfl rfl) rfl ?_
  refine AL.p (by exact as1 rfl) rfl ?_
  refine AL.p (by exact as1 rfl) rfl ?_
  refine AL.nil ?_
  refine th_n ?_
  refine AC.seq ?_
  refine AC.region ?_
  refine AL.p (by exact g_load_refN rfl rfl rfl rfl) rfl ?_
  refine AL.p (by exact mv1 rfl) rfl ?_
  refine AL.p (by exact g_load_refN rfl rfl rfl rfl) rfl ?_
  refine AL.q (by exact h_fun (cs := []) en_branchingOf rfl rfl (by repeat (first | exact rfl | exact DLead.same | refine ⟨_, _, rfl, ?_, ?_⟩ | refine ⟨_, rfl, ?_⟩)) (by repeat (exact True.intro)) hS rfl rfl rfl rfl) rfl ?_
  refine AL.p (by exact mv5 rfl) rfl ?_
  refine AL.p (by exact g_extract (r := .ptr _ _) rfl rfl) rfl ?_
  refine AL.p (by exact g_extract (r := .d _) rfl rfl) rfl ?_
  refine AL.p (by exact as3 rfl) rfl ?_
  refine AL.p (by exact as1 rfl) rfl ?_
  refine AL.nil ?_
  refine th_n ?_
  refine AC.seq ?_
  refine AC.seq ?_
  refine AC.region ?_
  refine AL.p (by exact mv1 rfl) rfl ?_
  refine AL.p (by exact g_not rfl) rfl ?_
  refine AL.p (by exact mv1 rfl) rfl ?_
  refine AL.caseGB rfl rfl (fun h0 => ?_) (fun h0 => ?_)
  · refine AL.not rfl rfl rfl rfl rfl ?_
    refine AL.not rfl rfl rfl rfl rfl ?_
    refine AL.not rfl rfl rfl rfl rfl ?_
    refine AL.not rfl rfl rfl rfl rfl ?_
    refine AL.not rfl rfl rfl rfl rfl ?_
    refine AL.not rfl rfl rfl rfl rfl ?_
    refine AL.p (by exact g_pickT (r := .d _) rfl rfl) rfl ?_
    refine AL.nil ?_
    refine th_n ?_
    refine AC.condT rfl ?_
    refine AC.seq ?_
    refine AC.region ?_
    refine AL.p (by exact as1 rfl) rfl ?_
    refine AL.p (by exact as1 rfl) rfl ?_
    refine AL.nil ?_
    refine th_n ?_
    refine AC.ret ?_
    refine th_r ?_
    refine bq_r ?_
    exact absurd h0 (by decide)
  · refine AL.yes rfl rfl rfl ?_
    refine AL.p (by exact mv1 rfl) rfl ?_
    refine AL.yes rfl rfl rfl ?_
    refine AL.p (by exact g_fa_ref rfl rfl rfl rfl rfl rfl) rfl ?_
    refine AL.yes rfl rfl rfl ?_
    refine AL.p (by exact g_load_ref rfl rfl rfl) rfl ?_
    refine AL.yes rfl rfl rfl ?_
    refine AL.p (by exact g_len_view rfl rfl (by exact List.length_map _)) rfl ?_
    refine AL.yes rfl rfl rfl ?_
    refine AL.q (by exact h_pure en_isIncreasing rfl rfl (by repeat (first | exact rfl | exact DLead.same | refine ⟨_, _, rfl, ?_, ?_⟩)) hIn rfl) rfl ?_
    refine AL.yes rfl rfl rfl ?_
    refine AL.p (by exact g_not rfl) rfl ?_
    refine AL.p (by exact g_pickF (r := .d _) rfl rfl) rfl ?_
    refine AL.nil ?_
    refine th_n ?_
    refine AC.condB rfl (fun h1 => ?_) (fun h1 => ?_)
    · refine AC.seq ?_
      refine AC.region ?_
      refine AL.p (by exact as1 rfl) rfl ?_
      refine AL.p (by exact as1 rfl) rfl ?_
      refine AL.nil ?_
      refine th_n ?_
      refine AC.ret ?_
      refine th_r ?_
      refine bq_r ?_
      exact ret2 rfl (by rw [hc0, (Bool.not_eq_true' _).mp h1]; rfl) (by rw [hl0, (Bool.not_eq_true' _).mp h1])
    · refine AC.skip ?_
      refine th_n ?_
      refine AC.seq ?_
      have h1' : r = true := (Bool.not_eq_false' _).mp h1
      have hrr := hr.symm.trans h1'
      have hin := list_in hrr
      have hSe := setOf_spec l hl (fun e he => by have := hin e he; omega)
      have hCo := brConf_spec N u L A (setI l) hT.w (fun f hf => by have := hin _ ((setI_bit (fun e he => by have := hin e he; omega) f).1 hf); omega)
      rw [conf_both hT hrr] at hCo
      obtain ⟨co, hco⟩ : ∃ b, b = confI u l := ⟨_, rfl⟩
      rw [← hco] at hCo
      refine AC.region ?_
      refine AL.p (by exact mv3 rfl) rfl ?_
      refine AL.p (by exact mv1 rfl) rfl ?_
      refine AL.q (by exact h_pure en_setOf rfl rfl (by repeat (first | exact rfl | exact DLead.same | refine ⟨_, _, rfl, ?_, ?_⟩)) hSe rfl) rfl ?_
      refine AL.q (by exact h_borrow [16, 17, 18, 19, 20] en_brConf rfl rfl hCo (br_lent [16, 17, 18, 19, 20] 16 17 18 19 20 rfl rfl rfl rfl rfl rfl rfl rfl rfl rfl (.cons (.of .d) .nil)) rfl) rfl ?_
      refine AL.p (by exact as1 rfl) rfl ?_
      refine AL.p (by exact as1 rfl) rfl ?_
      refine AL.nil ?_
      refine th_n ?_
      refine AC.ret ?_
      refine bq_r ?_
      exact ret2 rfl (by rw [hc0, h1', hco]; rfl) (by rw [hl0, h1'])
theorem en_iIsConf : Enters Tryz.prog 38 := enters_of Tryz.func38 rfl rfl
theorem iIsConf_spec (N : Net) (m : List UInt8) (u : Unf) (l : List Int) (hB : NetL N) (hm : m.length ≤ 2000000) (hu : UnfL u) (hl : l.length ≤ 2000000) : ASpec Tryz.prog 38 [netA N, aS (bstr m), unfA u, .d (vI l)] [] (Pure1 (.tup [aT (confR N m u l), aT (listB N m u l)])) := by
  cases hg : goodU N m u with
  | true => exact iIsConf_t N m u l hB hm hu hl hg
  | false => exact iIsConf_f N m u l hB hm hu hl hg
end Go.Proofs.YtlpafiiaminjkaaGreat

set_option linter.all false
set_option maxRecDepth 20000
namespace Go.Proofs.YtlpafiiaminjkaaGreat
open Go.RowKit

theorem cutK_congr {q r : Nat → Bool} (h : ∀ c, q c = r c) (k : Nat) : cutK q k = cutK r k := by rw [show q = r from funext h]
end Go.Proofs.YtlpafiiaminjkaaGreat

set_option linter.all false
set_option maxRecDepth 20000
namespace Go.Proofs.YtlpafiiaminjkaaGreat
open Go.RowKit

theorem and_l0 {a b : Bool} (h : (!a) = true) : (a && b) = false := by rw [(Bool.not_eq_true' _).mp h]; rfl
theorem and_r0 {a b : Bool} (h : (!b) = true) : (a && b) = false := by rw [(Bool.not_eq_true' _).mp h, Bool.and_false]
def finR (N : Net) (m : List UInt8) (u : Unf) (l : List Int) : List UInt8 := if confR N m u l = true then finI N u l else []
set_option maxHeartbeats 2000000 in
theorem sFinal_spec (N : Net) (m : List UInt8) (u : Unf) (l : List Int) (hB : NetL N) (hm : m.length ≤ 2000000) (hu : UnfL u) (hl : l.length ≤ 2000000) : ASpec Tryz.prog 18 [netA N, aS (bstr m), unfA u, .d (vI l)] [] (Pure1 (.tup [aS (bstr (finR N m u l)), aT (confR N m u l)])) := by
  have hL := l7List_spec N m u l hB hm hu hl
  change ASpec Tryz.prog 58 _ _ (Pure1 (aT (listB N m u l))) at hL
  have hgi : listB N m u l = true → Good N m u ∧ rising l 0 ((u.es.length : Int) - 1) = true ∧ l.length ≤ 60 := listB_iff
  have hcr : confR N m u l = (listB N m u l && confI u l) := rfl
  have hfr : finR N m u l = if (listB N m u l && confI u l) = true then finI N u l else [] := rfl
  obtain ⟨g, hg⟩ : ∃ g, g = listB N m u l := ⟨_, rfl⟩
  rw [← hg] at hL hgi hcr hfr
  have hC1 : g = true → ASpec Tryz.prog 59 [unfA u, .d (vI l)] [] (Pure1 (aT (confI u l))) := fun q => by
    obtain ⟨h1, h2, h3⟩ := hgi q
    exact l7Config_spec u l h1.tru.w.w (by omega) (list_in h2)
  obtain ⟨c, hc⟩ : ∃ c, c = confI u l := ⟨_, rfl⟩
  rw [← hc] at hC1 hcr hfr
  rw [hcr, hfr]
  refine ASpec.of Tryz.func18 rfl rfl fun C hC => ?_
  refine AC.seq ?_
  refine AC.region ?_
  refine AL.q (by exact h_boxF rfl rfl) rfl ?_
  refine AL.q (by exact h_boxF rfl rfl) rfl ?_
  refine AL.p (by exact as1 rfl) rfl ?_
  refine AL.p (by exact as1 rfl) rfl ?_
  refine AL.nil ?_
  refine th_n ?_
  refine AC.seq ?_
  refine AC.seq ?_
  refine AC.region ?_
  refine AL.p (by exact g_load_refN rfl rfl rfl rfl) rfl ?_
  refine AL.p (by exact mv1 rfl) rfl ?_
  refine AL.p (by exact g_load_refN rfl rfl rfl rfl) rfl ?_
  refine AL.p (by exact mv1 rfl) rfl ?_
  refine AL.q (by exact h_pure en_l7List rfl rfl (by repeat (first | exact rfl | exact DLead.same | refine ⟨_, _, rfl, ?_, ?_⟩ | refine ⟨_, rfl, ?_⟩)) hL rfl) rfl ?_
  refine AL.p (by exact g_not rfl) rfl ?_
  refine AL.p (by exact mv1 rfl) rfl ?_
  refine AL.caseGB rfl rfl (fun h0 => ?_) (fun h0 => ?_)
  · refine AL.not rfl rfl rfl rfl rfl ?_
    refine AL.not rfl rfl rfl rfl rfl ?_
    refine AL.not rfl rfl rfl rfl rfl ?_
    refine AL.not rfl rfl rfl rfl rfl ?_
    refine AL.p (by exact g_pickT (r := .d _) rfl rfl) rfl ?_
    refine AL.nil ?_
    refine th_n ?_
    refine AC.condT rfl ?_
    refine AC.seq ?_
    refine AC.region ?_
    refine AL.p (by exact as1 rfl) rfl ?_
    refine AL.p (by exact as1 rfl) rfl ?_
    refine AL.nil ?_
    refine th_n ?_
    refine AC.ret ?_
    refine th_r ?_
    refine bq_r ?_
    have e := and_l0 (b := c) h0
    exact ret2 rfl (by rw [e]; rfl) (by rw [e])
  · refine AL.yes rfl rfl rfl ?_
    refine AL.p (by exact g_load_refN rfl rfl rfl rfl) rfl ?_
    refine AL.yes rfl rfl rfl ?_
    refine AL.p (by exact mv1 rfl) rfl ?_
    refine AL.yes rfl rfl rfl ?_
    refine AL.q (by exact h_pure en_l7Config rfl rfl (by repeat (first | exact rfl | exact DLead.same | refine ⟨_, _, rfl, ?_, ?_⟩ | refine ⟨_, rfl, ?_⟩)) (hC1 ((Bool.not_eq_false' _).mp h0)) rfl) rfl ?_
    refine AL.yes rfl rfl rfl ?_
    refine AL.p (by exact g_not rfl) rfl ?_
    refine AL.p (by exact g_pickF (r := .d _) rfl rfl) rfl ?_
    refine AL.nil ?_
    refine th_n ?_
    refine AC.condB rfl (fun h1 => ?_) (fun h1 => ?_)
    · refine AC.seq ?_
      refine AC.region ?_
      refine AL.p (by exact as1 rfl) rfl ?_
      refine AL.p (by exact as1 rfl) rfl ?_
      refine AL.nil ?_
      refine th_n ?_
      refine AC.ret ?_
      refine th_r ?_
      refine bq_r ?_
      have e := and_r0 (a := g) h1
      exact ret2 rfl (by rw [e]; rfl) (by rw [e])
    · refine AC.skip ?_
      refine th_n ?_
      refine AC.seq ?_
      have q1 := (Bool.not_eq_false' _).mp h0
      have q2 := (Bool.not_eq_false' _).mp h1
      obtain ⟨hG, hr, hll⟩ := hgi q1
      have hM := l7Mark_spec N u l hG.n hG.tru.w.w (by omega) (list_in hr)
      obtain ⟨fm, hfm⟩ : ∃ fm, fm = finI N u l := ⟨_, rfl⟩
      rw [← hfm] at hM
      refine AC.region ?_
      refine AL.p (by exact g_load_refN rfl rfl rfl rfl) rfl ?_
      refine AL.p (by exact g_load_refN rfl rfl rfl rfl) rfl ?_
      refine AL.p (by exact mv1 rfl) rfl ?_
      refine AL.q (by exact h_pure en_l7Mark rfl rfl (by repeat (first | exact rfl | exact DLead.same | refine ⟨_, _, rfl, ?_, ?_⟩ | refine ⟨_, rfl, ?_⟩)) hM rfl) rfl ?_
      refine AL.p (by exact as1 rfl) rfl ?_
      refine AL.p (by exact as1 rfl) rfl ?_
      refine AL.nil ?_
      refine th_n ?_
      refine AC.ret ?_
      refine bq_r ?_
      exact ret2 rfl (by rw [q1, q2, hfm]; rfl) (by rw [q1, q2]; rfl)
theorem en_sFinal : Enters Tryz.prog 18 := enters_of Tryz.func18 rfl rfl
def confRes (N : Net) (m : List UInt8) (u : Unf) (l : List Int) : AV → List (Nat × Chunk) → Prop := if confR N m u l = true then Fun1 (.tup [.ptr 0 0, aU (setI l), aT true]) (brChs N u (locL N m u) (agaA N m u)) else Pure1 (.tup [.dead, .dead, aT false])
theorem conf_iff {N : Net} {m : List UInt8} {u : Unf} {l : List Int} (h : confR N m u l = true) : listB N m u l = true ∧ confI u l = true := by unfold confR at h; rwa [Bool.and_eq_true] at h
set_option maxHeartbeats 2000000 in
theorem confOf_f (N : Net) (m : List UInt8) (u : Unf) (l : List Int) (hB : NetL N) (hm : m.length ≤ 2000000) (hu : UnfL u) (hl : l.length ≤ 2000000) (hc : confR N m u l = false) : ASpec Tryz.prog 61 [netA N, aS (bstr m), unfA u, .d (vI l)] [] (confRes N m u l) := by
  have hI := iIsConf_spec N m u l hB hm hu hl
  rw [hc] at hI
  obtain ⟨g, hg⟩ : ∃ g, g = listB N m u l := ⟨_, rfl⟩
  rw [← hg] at hI
  rw [show confRes N m u l = Pure1 (.tup [.dead, .dead, aT false]) from if_neg (by rw [hc]; exact Bool.false_ne_true)]
  refine ASpec.of Tryz.func61 rfl rfl fun C hC => ?_
  refine AC.seq ?_
  refine AC.region ?_
  refine AL.q (by exact h_boxF rfl rfl) rfl ?_
  refine AL.q (by exact h_boxF rfl rfl) rfl ?_
  refine AL.p (by exact as1 rfl) rfl ?_
  refine AL.p (by exact as1 rfl) rfl ?_
  refine AL.p (by exact as1 rfl) rfl ?_
  refine AL.nil ?_
  refine th_n ?_
  refine AC.seq ?_
  refine AC.region ?_
  refine AL.p (by exact g_load_refN rfl rfl rfl rfl) rfl ?_
  refine AL.p (by exact mv1 rfl) rfl ?_
  refine AL.p (by exact g_load_refN rfl rfl rfl rfl) rfl ?_
  refine AL.p (by exact mv1 rfl) rfl ?_
  refine AL.q (by exact h_pure en_iIsConf rfl rfl (by repeat (first | exact rfl | exact DLead.same | refine ⟨_, _, rfl, ?_, ?_⟩ | refine ⟨_, rfl, ?_⟩)) hI rfl) rfl ?_
  refine AL.p (by exact mv5 rfl) rfl ?_
  refine AL.p (by exact g_extract (r := .d _) rfl rfl) rfl ?_
  refine AL.p (by exact g_extract (r := .d _) rfl rfl) rfl ?_
  refine AL.p (by exact as1 rfl) rfl ?_
  refine AL.p (by exact as1 rfl) rfl ?_
  refine AL.nil ?_
  refine th_n ?_
  refine AC.seq ?_
  refine AC.seq ?_
  refine AC.region ?_
  refine AL.p (by exact mv1 rfl) rfl ?_
  refine AL.p (by exact g_not rfl) rfl ?_
  refine AL.p (by exact mv1 rfl) rfl ?_
  refine AL.caseGB rfl rfl (fun h0 => ?_) (fun h0 => ?_)
  · refine AL.not rfl rfl rfl rfl rfl ?_
    refine AL.not rfl rfl rfl rfl rfl ?_
    refine AL.p (by exact g_pickT (r := .d _) rfl rfl) rfl ?_
    refine AL.nil ?_
    refine th_n ?_
    refine AC.condT rfl ?_
    refine AC.seq ?_
    refine AC.region ?_
    refine AL.p (by exact as1 rfl) rfl ?_
    refine AL.p (by exact as1 rfl) rfl ?_
    refine AL.p (by exact as1 rfl) rfl ?_
    refine AL.nil ?_
    refine th_n ?_
    refine AC.ret ?_
    refine th_r ?_
    refine bq_r ?_
    exact ret0 rfl (by repeat (first | exact rfl | exact DLead.same | exact True.intro | refine ⟨_, _, rfl, ?_, ?_⟩ | refine ⟨_, rfl, ?_⟩))
  · refine AL.yes rfl rfl rfl ?_
    refine AL.p (by exact mv1 rfl) rfl ?_
    refine AL.yes rfl rfl rfl ?_
    refine AL.p (by exact g_not rfl) rfl ?_
    refine AL.p (by exact g_pickF (r := .d _) rfl rfl) rfl ?_
    refine AL.nil ?_
    refine th_n ?_
    refine AC.condB rfl (fun h1 => ?_) (fun h1 => ?_)
    · refine AC.seq ?_
      refine AC.region ?_
      refine AL.p (by exact as1 rfl) rfl ?_
      refine AL.p (by exact as1 rfl) rfl ?_
      refine AL.p (by exact as1 rfl) rfl ?_
      refine AL.nil ?_
      refine th_n ?_
      refine AC.ret ?_
      refine th_r ?_
      refine bq_r ?_
      exact ret0 rfl (by repeat (first | exact rfl | exact DLead.same | exact True.intro | refine ⟨_, _, rfl, ?_, ?_⟩ | refine ⟨_, rfl, ?_⟩))
    · refine AC.skip ?_
      refine th_n ?_
      refine AC.seq ?_
      exact absurd h1 (by decide)
set_option maxHeartbeats 2000000 in
theorem confOf_t (N : Net) (m : List UInt8) (u : Unf) (l : List Int) (hB : NetL N) (hm : m.length ≤ 2000000) (hu : UnfL u) (hl : l.length ≤ 2000000) (hc : confR N m u l = true) : ASpec Tryz.prog 61 [netA N, aS (bstr m), unfA u, .d (vI l)] [] (confRes N m u l) := by
  have hI := iIsConf_spec N m u l hB hm hu hl
  obtain ⟨hlb, hci⟩ := conf_iff hc
  rw [hc, hlb] at hI
  obtain ⟨hG, hr, hll⟩ := listB_iff hlb
  have hge := hG.e
  have hgu : goodU N m u = true := by unfold listB at hlb; rw [Bool.and_eq_true] at hlb; exact hlb.1
  have hS := branchingOf_spec N m u hB hm hu
  rw [brRes_t hgu] at hS
  have hin := list_in hr
  have hSe := setOf_spec l hl (fun e he => by have := hin e he; omega)
  rw [show confRes N m u l = Fun1 (.tup [.ptr 0 0, aU (setI l), aT true]) (brChs N u (locL N m u) (agaA N m u)) from if_pos hc]
  obtain ⟨L, hL⟩ : ∃ L, L = locL N m u := ⟨_, rfl⟩
  obtain ⟨A, hA⟩ : ∃ A, A = agaA N m u := ⟨_, rfl⟩
  rw [← hL, ← hA] at hS ⊢
  refine ASpec.of Tryz.func61 rfl rfl fun C hC => ?_
  refine AC.seq ?_
  refine AC.region ?_
  refine AL.q (by exact h_boxF rfl rfl) rfl ?_
  refine AL.q (by exact h_boxF rfl rfl) rfl ?_
  refine AL.p (by exact as1 rfl) rfl ?_
  refine AL.p (by exact as1 rfl) rfl ?_
  refine AL.p (by exact as1 rfl) rfl ?_
  refine AL.nil ?_
  refine th_n ?_
  refine AC.seq ?_
  refine AC.region ?_
  refine AL.p (by exact g_load_refN rfl rfl rfl rfl) rfl ?_
  refine AL.p (by exact mv1 rfl) rfl ?_
  refine AL.p (by exact g_load_refN rfl rfl rfl rfl) rfl ?_
  refine AL.p (by exact mv1 rfl) rfl ?_
  refine AL.q (by exact h_pure en_iIsConf rfl rfl (by repeat (first | exact rfl | exact DLead.same | refine ⟨_, _, rfl, ?_, ?_⟩ | refine ⟨_, rfl, ?_⟩)) hI rfl) rfl ?_
  refine AL.p (by exact mv5 rfl) rfl ?_
  refine AL.p (by exact g_extract (r := .d _) rfl rfl) rfl ?_
  refine AL.p (by exact g_extract (r := .d _) rfl rfl) rfl ?_
  refine AL.p (by exact as1 rfl) rfl ?_
  refine AL.p (by exact as1 rfl) rfl ?_
  refine AL.nil ?_
  refine th_n ?_
  refine AC.seq ?_
  refine AC.seq ?_
  refine AC.region ?_
  refine AL.p (by exact mv1 rfl) rfl ?_
  refine AL.p (by exact g_not rfl) rfl ?_
  refine AL.p (by exact mv1 rfl) rfl ?_
  refine AL.caseGB rfl rfl (fun h0 => ?_) (fun h0 => ?_)
  · refine AL.not rfl rfl rfl rfl rfl ?_
    refine AL.not rfl rfl rfl rfl rfl ?_
    refine AL.p (by exact g_pickT (r := .d _) rfl rfl) rfl ?_
    refine AL.nil ?_
    refine th_n ?_
    refine AC.condT rfl ?_
    refine AC.seq ?_
    refine AC.region ?_
    refine AL.p (by exact as1 rfl) rfl ?_
    refine AL.p (by exact as1 rfl) rfl ?_
    refine AL.p (by exact as1 rfl) rfl ?_
    refine AL.nil ?_
    refine th_n ?_
    refine AC.ret ?_
    refine th_r ?_
    refine bq_r ?_
    exact absurd h0 (by decide)
  · refine AL.yes rfl rfl rfl ?_
    refine AL.p (by exact mv1 rfl) rfl ?_
    refine AL.yes rfl rfl rfl ?_
    refine AL.p (by exact g_not rfl) rfl ?_
    refine AL.p (by exact g_pickF (r := .d _) rfl rfl) rfl ?_
    refine AL.nil ?_
    refine th_n ?_
    refine AC.condB rfl (fun h1 => ?_) (fun h1 => ?_)
    · refine AC.seq ?_
      refine AC.region ?_
      refine AL.p (by exact as1 rfl) rfl ?_
      refine AL.p (by exact as1 rfl) rfl ?_
      refine AL.p (by exact as1 rfl) rfl ?_
      refine AL.nil ?_
      refine th_n ?_
      refine AC.ret ?_
      refine th_r ?_
      refine bq_r ?_
      exact absurd h1 (by decide)
    · refine AC.skip ?_
      refine th_n ?_
      refine AC.seq ?_
      refine AC.region ?_
      refine AL.p (by exact g_load_refN rfl rfl rfl rfl) rfl ?_
      refine AL.p (by exact mv1 rfl) rfl ?_
      refine AL.p (by exact g_load_refN rfl rfl rfl rfl) rfl ?_
      refine AL.q (by exact h_fun (cs := []) en_branchingOf rfl rfl (by repeat (first | exact rfl | exact DLead.same | refine ⟨_, _, rfl, ?_, ?_⟩ | refine ⟨_, rfl, ?_⟩)) (by repeat (exact True.intro)) hS rfl rfl rfl rfl) rfl ?_
      refine AL.p (by exact mv5 rfl) rfl ?_
      refine AL.p (by exact g_extract (r := .ptr _ _) rfl rfl) rfl ?_
      refine AL.p (by exact g_extract (r := .d _) rfl rfl) rfl ?_
      refine AL.p (by exact as3 rfl) rfl ?_
      refine AL.p (by exact as1 rfl) rfl ?_
      refine AL.nil ?_
      refine th_n ?_
      refine AC.seq ?_
      refine AC.region ?_
      refine AL.p (by exact mv3 rfl) rfl ?_
      refine AL.p (by exact mv1 rfl) rfl ?_
      refine AL.q (by exact h_pure en_setOf rfl rfl (by repeat (first | exact rfl | exact DLead.same | refine ⟨_, _, rfl, ?_, ?_⟩)) hSe rfl) rfl ?_
      refine AL.p (by exact as3 rfl) rfl ?_
      refine AL.p (by exact as1 rfl) rfl ?_
      refine AL.p (by exact as1 rfl) rfl ?_
      refine AL.nil ?_
      refine th_n ?_
      refine AC.ret ?_
      refine bq_r ?_
      exact retN [(0, _), (1, _), (2, _), (3, _), (4, _)] rfl (by repeat (first | exact rfl | exact DLead.same | refine ⟨_, _, rfl, ?_, ?_⟩ | refine ⟨_, rfl, ?_⟩)) (by repeat (first | exact True.intro | refine And.intro ?_ ?_ | exact DLead.same | exact rfl | refine ⟨_, _, rfl, rfl, ?_⟩ | refine ⟨_, rfl, ?_⟩ | refine ⟨_, _, rfl, ?_, ?_⟩)) rfl rfl
theorem en_confOf : Enters Tryz.prog 61 := enters_of Tryz.func61 rfl rfl
theorem iFinal_f (N : Net) (m : List UInt8) (u : Unf) (l : List Int) (hB : NetL N) (hm : m.length ≤ 2000000) (hu : UnfL u) (hl : l.length ≤ 2000000) (hc : confR N m u l = false) : ASpec Tryz.prog 20 [netA N, aS (bstr m), unfA u, .d (vI l)] [] (Pure1 (.tup [aS (bstr (finR N m u l)), aT (confR N m u l)])) := by
  have hS := confOf_f N m u l hB hm hu hl hc
  rw [show confRes N m u l = Pure1 (.tup [.dead, .dead, aT false]) from if_neg (by rw [hc]; exact Bool.false_ne_true)] at hS
  have hR : finR N m u l = [] := by unfold finR; rw [hc]; rfl
  rw [hR, hc]
  refine ASpec.of Tryz.func20 rfl rfl fun C hC => ?_
  refine AC.seq ?_
  refine AC.region ?_
  refine AL.q (by exact h_boxF rfl rfl) rfl ?_
  refine AL.q (by exact h_boxF rfl rfl) rfl ?_
  refine AL.p (by exact as1 rfl) rfl ?_
  refine AL.p (by exact as1 rfl) rfl ?_
  refine AL.nil ?_
  refine th_n ?_
  refine AC.seq ?_
  refine AC.region ?_
  refine AL.p (by exact g_load_refN rfl rfl rfl rfl) rfl ?_
  refine AL.p (by exact mv1 rfl) rfl ?_
  refine AL.p (by exact g_load_refN rfl rfl rfl rfl) rfl ?_
  refine AL.p (by exact mv1 rfl) rfl ?_
  refine AL.q (by exact h_fun (cs := []) en_confOf rfl rfl (by repeat (first | exact rfl | exact DLead.same | refine ⟨_, _, rfl, ?_, ?_⟩ | refine ⟨_, rfl, ?_⟩)) (by repeat (exact True.intro)) hS rfl rfl rfl rfl) rfl ?_
  refine AL.p (by exact mv5 rfl) rfl ?_
  refine AL.p (by exact g_extract (r := .dead) rfl rfl) rfl ?_
  refine AL.p (by exact g_extract (r := .dead) rfl rfl) rfl ?_
  refine AL.p (by exact g_extract (r := .d _) rfl rfl) rfl ?_
  refine AL.p (by exact as9 rfl) rfl ?_
  refine AL.p (by exact as9 rfl) rfl ?_
  refine AL.p (by exact as1 rfl) rfl ?_
  refine AL.nil ?_
  refine th_n ?_
  refine AC.seq ?_
  refine AC.seq ?_
  refine AC.region ?_
  refine AL.p (by exact mv1 rfl) rfl ?_
  refine AL.p (by exact g_not rfl) rfl ?_
  refine AL.nil ?_
  refine th_n ?_
  refine AC.condB rfl (fun h0 => ?_) (fun h0 => ?_)
  · refine AC.seq ?_
    refine AC.region ?_
    refine AL.p (by exact as1 rfl) rfl ?_
    refine AL.p (by exact as1 rfl) rfl ?_
    refine AL.nil ?_
    refine th_n ?_
    refine AC.ret ?_
    refine th_r ?_
    refine bq_r ?_
    exact ret2 rfl rfl rfl
  · refine AC.skip ?_
    refine th_n ?_
    refine AC.seq ?_
    exact absurd h0 (by decide)
set_option maxHeartbeats 2000000 in
theorem iFinal_t (N : Net) (m : List UInt8) (u : Unf) (l : List Int) (hB : NetL N) (hm : m.length ≤ 2000000) (hu : UnfL u) (hl : l.length ≤ 2000000) (hc : confR N m u l = true) : ASpec Tryz.prog 20 [netA N, aS (bstr m), unfA u, .d (vI l)] [] (Pure1 (.tup [aS (bstr (finR N m u l)), aT (confR N m u l)])) := by
  have hS := confOf_t N m u l hB hm hu hl hc
  rw [show confRes N m u l = Fun1 (.tup [.ptr 0 0, aU (setI l), aT true]) (brChs N u (locL N m u) (agaA N m u)) from if_pos hc] at hS
  obtain ⟨hlb, hci⟩ := conf_iff hc
  obtain ⟨hG, hr, hll⟩ := listB_iff hlb
  have hT := hG.tru
  have hge := hG.e
  have hR : finR N m u l = finI N u l := by unfold finR; rw [hc]; rfl
  rw [hR, hc]
  obtain ⟨L, hL⟩ : ∃ L, L = locL N m u := ⟨_, rfl⟩
  obtain ⟨A, hA⟩ : ∃ A, A = agaA N m u := ⟨_, rfl⟩
  rw [← hL, ← hA] at hT hS
  have hin := list_in hr
  have hsub : subU (setI l) u.es.length := fun f hf => by have := hin _ ((setI_bit (fun e he => by have := hin e he; omega) f).1 hf); omega
  have hF := brFinal_spec N u L A (setI l) hG.n hT.w hG.pl hsub
  rw [cutK_congr (cut_both (list_set hr (by omega)))] at hF
  change ASpec Tryz.prog 62 _ _ (Pure1 (aS (bstr (finI N u l)))) at hF
  obtain ⟨fm, hfm⟩ : ∃ fm, fm = finI N u l := ⟨_, rfl⟩
  rw [← hfm] at hF ⊢
  refine ASpec.of Tryz.func20 rfl rfl fun C hC => ?_
  refine AC.seq ?_
  refine AC.region ?_
  refine AL.q (by exact h_boxF rfl rfl) rfl ?_
  refine AL.q (by exact h_boxF rfl rfl) rfl ?_
  refine AL.p (by exact as1 rfl) rfl ?_
  refine AL.p (by exact as1 rfl) rfl ?_
  refine AL.nil ?_
  refine th_n ?_
  refine AC.seq ?_
  refine AC.region ?_
  refine AL.p (by exact g_load_refN rfl rfl rfl rfl) rfl ?_
  refine AL.p (by exact mv1 rfl) rfl ?_
  refine AL.p (by exact g_load_refN rfl rfl rfl rfl) rfl ?_
  refine AL.p (by exact mv1 rfl) rfl ?_
  refine AL.q (by exact h_fun (cs := []) en_confOf rfl rfl (by repeat (first | exact rfl | exact DLead.same | refine ⟨_, _, rfl, ?_, ?_⟩ | refine ⟨_, rfl, ?_⟩)) (by repeat (exact True.intro)) hS rfl rfl rfl rfl) rfl ?_
  refine AL.p (by exact mv5 rfl) rfl ?_
  refine AL.p (by exact g_extract (r := .ptr _ _) rfl rfl) rfl ?_
  refine AL.p (by exact g_extract (r := .d _) rfl rfl) rfl ?_
  refine AL.p (by exact g_extract (r := .d _) rfl rfl) rfl ?_
  refine AL.p (by exact as3 rfl) rfl ?_
  refine AL.p (by exact as1 rfl) rfl ?_
  refine AL.p (by exact as1 rfl) rfl ?_
  refine AL.nil ?_
  refine th_n ?_
  refine AC.seq ?_
  refine AC.seq ?_
  refine AC.region ?_
  refine AL.p (by exact mv1 rfl) rfl ?_
  refine AL.p (by exact g_not rfl) rfl ?_
  refine AL.nil ?_
  refine th_n ?_
  refine AC.condB rfl (fun h0 => ?_) (fun h0 => ?_)
  · refine AC.seq ?_
    exact absurd h0 (by decide)
  · refine AC.skip ?_
    refine th_n ?_
    refine AC.seq ?_
    refine AC.region ?_
    refine AL.p (by exact mv3 rfl) rfl ?_
    refine AL.p (by exact mv1 rfl) rfl ?_
    refine AL.q (by exact h_borrow [16, 17, 18, 19, 20] en_brFinal rfl rfl hF (br_lent [16, 17, 18, 19, 20] 16 17 18 19 20 rfl rfl rfl rfl rfl rfl rfl rfl rfl rfl (.cons (.of .d) .nil)) rfl) rfl ?_
    refine AL.p (by exact as1 rfl) rfl ?_
    refine AL.p (by exact as1 rfl) rfl ?_
    refine AL.nil ?_
    refine th_n ?_
    refine AC.ret ?_
    refine bq_r ?_
    exact ret2 rfl rfl rfl
theorem en_iFinal : Enters Tryz.prog 20 := enters_of Tryz.func20 rfl rfl
theorem iFinal_spec (N : Net) (m : List UInt8) (u : Unf) (l : List Int) (hB : NetL N) (hm : m.length ≤ 2000000) (hu : UnfL u) (hl : l.length ≤ 2000000) : ASpec Tryz.prog 20 [netA N, aS (bstr m), unfA u, .d (vI l)] [] (Pure1 (.tup [aS (bstr (finR N m u l)), aT (confR N m u l)])) := by
  cases hc : confR N m u l with
  | true => rw [← hc]; exact iFinal_t N m u l hB hm hu hl hc
  | false => rw [← hc]; exact iFinal_f N m u l hB hm hu hl hc
end Go.Proofs.YtlpafiiaminjkaaGreat

set_option linter.all false
set_option maxRecDepth 20000
namespace Go.Proofs.YtlpafiiaminjkaaGreat
open Go.RowKit

set_option maxRecDepth 20000 in
set_option maxHeartbeats 8000000 in
theorem FnExactFinalMarking_spec (N : Net) (m : List UInt8) (u : Unf) (l : List Int) (hN : ArgN N) (hm : m.length ≤ 9223372036854775807) (hu : ArgU u) (hl : l.length ≤ 9223372036854775807) : ASpec Tryz.prog 4 [lnetA N, aS (bstr m), lunfA u, .d (vI l)] [] (Pure1 (aT true)) := by
  have hsz := bstr_size m
  have hS1 := szNet_spec N 1048576 (by omega) hN.l hN.t
  have hI1 := szNt_in (ts := N.ts) (left := 1048576) (by omega)
  obtain ⟨a, ha⟩ : ∃ a, a = szNt N.ts 1048576 := ⟨_, rfl⟩
  rw [← ha] at hS1 hI1
  refine ASpec.of Tryz.func4 rfl rfl fun C hC => ?_
  refine AC.seq ?_
  refine AC.region ?_
  refine AL.q (by exact h_boxF rfl rfl) rfl ?_
  refine AL.q (by exact h_boxF rfl rfl) rfl ?_
  refine AL.p (by exact as1 rfl) rfl ?_
  refine AL.nil ?_
  refine th_n ?_
  refine AC.seq ?_
  refine AC.seq ?_
  refine AC.region ?_
  refine AL.p (by exact mv1 rfl) rfl ?_
  refine AL.p (by exact g_len_str rfl rfl rfl) rfl ?_
  refine AL.p (by exact g_cmp rfl rfl rfl) rfl ?_
  refine AL.nil ?_
  refine th_n ?_
  refine AC.condD rfl (fun h0 => ?_) (fun h0 => ?_)
  · refine AC.seq ?_
    refine AC.region ?_
    refine AL.p (by exact as1 rfl) rfl ?_
    refine AL.nil ?_
    refine th_n ?_
    refine AC.ret ?_
    refine th_r ?_
    refine bq_r ?_
    exact ret1 rfl rfl
  · refine AC.skip ?_
    refine th_n ?_
    refine AC.seq ?_
    refine AC.seq ?_
    refine AC.region ?_
    refine AL.p (by exact mv1 rfl) rfl ?_
    refine AL.p (by exact g_len_view rfl rfl (by exact List.length_map _)) rfl ?_
    refine AL.p (by exact g_cmp rfl rfl rfl) rfl ?_
    refine AL.nil ?_
    refine th_n ?_
    refine AC.condD rfl (fun h1 => ?_) (fun h1 => ?_)
    · refine AC.seq ?_
      refine AC.region ?_
      refine AL.p (by exact as1 rfl) rfl ?_
      refine AL.nil ?_
      refine th_n ?_
      refine AC.ret ?_
      refine th_r ?_
      refine bq_r ?_
      exact ret1 rfl rfl
    · refine AC.skip ?_
      refine th_n ?_
      refine AC.seq ?_
      refine AC.region ?_
      refine AL.p (by exact as1 rfl) rfl ?_
      refine AL.nil ?_
      refine th_n ?_
      refine AC.seq ?_
      refine AC.region ?_
      refine AL.p (by exact g_load_refN rfl rfl rfl rfl) rfl ?_
      refine AL.p (by exact mv1 rfl) rfl ?_
      refine AL.q (by exact h_pure en_szNet rfl rfl (by repeat (first | exact rfl | exact DLead.same | refine ⟨_, _, rfl, ?_, ?_⟩ | refine ⟨_, rfl, ?_⟩)) hS1 rfl) rfl ?_
      refine AL.p (by exact as1 rfl) rfl ?_
      refine AL.nil ?_
      refine th_n ?_
      refine AC.seq ?_
      refine AC.seq ?_
      refine AC.region ?_
      refine AL.p (by exact mv1 rfl) rfl ?_
      refine AL.p (by exact g_cmp rfl rfl rfl) rfl ?_
      refine AL.nil ?_
      refine th_n ?_
      refine AC.condD rfl (fun h2 => ?_) (fun h2 => ?_)
      · refine AC.seq ?_
        refine AC.region ?_
        refine AL.p (by exact as1 rfl) rfl ?_
        refine AL.nil ?_
        refine th_n ?_
        refine AC.ret ?_
        refine th_r ?_
        refine bq_r ?_
        exact ret1 rfl rfl
      · refine AC.skip ?_
        refine th_n ?_
        refine AC.seq ?_
        have hNl : (N.ts.length : Int) ≤ 1048576 ∧ ∀ t, t ∈ N.ts → (t.pre.length : Int) ≤ 1048576 ∧ (t.post.length : Int) ≤ 1048576 := by rcases hI1 with h | h; omega; exact h.2.2
        have haI : 0 ≤ a ∧ a ≤ 1048576 := by omega
        have hS2 := szUnf_spec u a haI hu.c hu.l hu.t
        have hI2 := szU_in (u := u) haI
        obtain ⟨b, hb⟩ : ∃ b, b = szU u a := ⟨_, rfl⟩
        rw [← hb] at hS2 hI2
        refine AC.region ?_
        refine AL.p (by exact g_load_refN rfl rfl rfl rfl) rfl ?_
        refine AL.p (by exact mv1 rfl) rfl ?_
        refine AL.q (by exact h_pure en_szUnf rfl rfl (by repeat (first | exact rfl | exact DLead.same | refine ⟨_, _, rfl, ?_, ?_⟩ | refine ⟨_, rfl, ?_⟩)) hS2 rfl) rfl ?_
        refine AL.p (by exact as1 rfl) rfl ?_
        refine AL.nil ?_
        refine th_n ?_
        refine AC.seq ?_
        refine AC.seq ?_
        refine AC.region ?_
        refine AL.p (by exact mv1 rfl) rfl ?_
        refine AL.p (by exact g_cmp rfl rfl rfl) rfl ?_
        refine AL.nil ?_
        refine th_n ?_
        refine AC.condD rfl (fun h3 => ?_) (fun h3 => ?_)
        · refine AC.seq ?_
          refine AC.region ?_
          refine AL.p (by exact as1 rfl) rfl ?_
          refine AL.nil ?_
          refine th_n ?_
          refine AC.ret ?_
          refine th_r ?_
          refine bq_r ?_
          exact ret1 rfl rfl
        · refine AC.skip ?_
          refine th_n ?_
          refine AC.seq ?_
          have hm' : m.length ≤ 1048576 := by omega
          have hUl : (u.cs.length : Int) ≤ 1048576 ∧ (u.es.length : Int) ≤ 1048576 ∧ ∀ e, e ∈ u.es → (e.pre.length : Int) ≤ 1048576 := by rcases hI2 with h | h; omega; exact ⟨by omega, by omega, fun e he => by have := h.2.2.2.2 e he; omega⟩
          have hNl1 : N.ts.length ≤ 1048576 := by omega
          have hNl2 : ∀ t, t ∈ N.ts → t.pre.length ≤ 1048576 ∧ t.post.length ≤ 1048576 := fun t ht => by have := hNl.2 t ht; omega
          have hUc : u.cs.length ≤ 1048576 := by omega
          have hUe : u.es.length ≤ 1048576 := by omega
          have hUt : ∀ e, e ∈ u.es → e.pre.length ≤ 1048576 := fun e he => by have := hUl.2.2 e he; omega
          have hNL : NetL N := ⟨hN.p, by omega, fun t ht => by have := hNl2 t ht; omega⟩
          have hUL : UnfL u := ⟨hUe, hUc, fun e he => by have := hUt e he; omega⟩
          have hcToNet := toNet_spec N hNl1 hNl2
          have hcToUnf := toUnf_spec u hUc hUe hUt
          have hcEqNet := eqNet_spec N N hNl1 hNl1 hNl2 hNl2
          have hcEqUnf := eqUnf_spec u u hUe hUe hUt hUt hUc hUc
          rw [decide_eq_true rfl] at hcEqNet hcEqUnf
          have hl2 : l.length ≤ 1048576 := by omega
          have hcToIntS := toIntS_spec l hl2
          have hcEqIntS := eqIntS_spec l l hl2 hl2
          rw [decide_eq_true rfl] at hcEqIntS
          have hG1 := sFinal_spec N m u l hNL (by omega) hUL (by omega)
          have hG2 := iFinal_spec N m u l hNL (by omega) hUL (by omega)
          obtain ⟨g0, hg0⟩ : ∃ g, g = finR N m u l := ⟨_, rfl⟩
          rw [← hg0] at hG1 hG2
          obtain ⟨g1, hg1⟩ : ∃ g, g = confR N m u l := ⟨_, rfl⟩
          rw [← hg1] at hG1 hG2
          refine AC.drawn' mixed_ok [[], [0], [], [], [0,1,3], [], [0,1,3,4,5], [0,1,2,3,4,5,6], [0,1,2,3,4,5,6,7], [0,1,2,3,4,5,6,7,8], [0,1,2,3,4,5,6,7,8], [0,1,2,3,4,5,6,7,8,9], [0,1,2,3,4,5,6,7,8,9,10,11]] (by decide) ?_
          refine DF.op 0 [] 13 rfl rfl rfl (.free rfl (NOp.of (by exact g_load_refN rfl rfl rfl rfl))) rfl ?_
          refine DF.op 1 [0] 13 rfl rfl rfl (.free rfl (by exact h_pure en_toNet rfl rfl (by repeat (first | exact rfl | exact DLead.same | refine ⟨_, _, rfl, ?_, ?_⟩ | refine ⟨_, rfl, ?_⟩)) hcToNet rfl)) rfl ?_
          refine DF.op 2 [] 13 rfl rfl rfl (.free rfl (NOp.of (by exact mv1 rfl))) rfl ?_
          refine DF.op 3 [] 13 rfl rfl rfl (.free rfl (NOp.of (by exact g_load_refN rfl rfl rfl rfl))) rfl ?_
          refine DF.op 4 [0,1,3] 13 rfl rfl rfl (.free rfl (by exact h_pure en_toUnf rfl rfl (by repeat (first | exact rfl | exact DLead.same | refine ⟨_, _, rfl, ?_, ?_⟩ | refine ⟨_, rfl, ?_⟩)) hcToUnf rfl)) rfl ?_
          refine DF.op 5 [] 13 rfl rfl rfl (.free rfl (NOp.of (by exact mv1 rfl))) rfl ?_
          refine DF.op 6 [0,1,3,4,5] 13 rfl rfl rfl (.free rfl (by exact h_pure en_toIntS rfl rfl (by repeat (first | exact rfl | exact DLead.same | refine ⟨_, _, rfl, ?_, ?_⟩)) hcToIntS rfl)) rfl ?_
          refine DF.op 7 [0,1,2,3,4,5,6] 13 rfl rfl rfl (.free rfl (by exact h_pure en_sFinal rfl rfl (by repeat (first | exact rfl | exact DLead.same | refine ⟨_, _, rfl, ?_, ?_⟩ | refine ⟨_, rfl, ?_⟩)) hG1 rfl)) rfl ?_
          refine DF.op 8 [0,1,2,3,4,5,6,7] 13 rfl rfl rfl (.free rfl (NOp.of (by exact mv5 rfl))) rfl ?_
          refine DF.op 9 [0,1,2,3,4,5,6,7,8] 13 rfl rfl rfl (.free rfl (NOp.of (by exact g_extract (r := .d _) rfl rfl))) rfl ?_
          refine DF.op 10 [0,1,2,3,4,5,6,7,8] 13 rfl rfl rfl (.free rfl (NOp.of (by exact g_extract (r := .d _) rfl rfl))) rfl ?_
          refine DF.op 11 [0,1,2,3,4,5,6,7,8,9] 13 rfl rfl rfl (.free rfl (NOp.of (by exact as1 rfl))) rfl ?_
          refine DF.op 12 [0,1,2,3,4,5,6,7,8,9,10,11] 13 rfl rfl rfl (.free rfl (NOp.of (by exact as1 rfl))) rfl ?_
          refine DF.fin (ps := [(0, 2), (0, 3), (0, 5), (1, 2), (1, 3), (1, 5), (2, 0), (2, 1), (2, 3), (2, 4), (2, 5), (2, 6), (3, 0), (3, 1), (3, 2), (3, 5), (4, 2), (4, 5), (5, 0), (5, 1), (5, 2), (5, 3), (5, 4), (6, 2), (9, 10), (10, 9), (10, 11), (11, 10)]) 13 rfl (by decide +kernel) (by decide +kernel) (by rfl) ?_
          refine th_n ?_
          refine AC.seq ?_
          refine AC.region ?_
          refine AL.p (by exact g_load_refN rfl rfl rfl rfl) rfl ?_
          refine AL.q (by exact h_pure en_toNet rfl rfl (by repeat (first | exact rfl | exact DLead.same | refine ⟨_, _, rfl, ?_, ?_⟩ | refine ⟨_, rfl, ?_⟩)) hcToNet rfl) rfl ?_
          refine AL.q (by exact h_alloc rfl) rfl ?_
          refine AL.q (by exact h_store rfl rfl rfl rfl rfl rfl) rfl ?_
          refine AL.nil ?_
          refine th_n ?_
          refine AC.seq ?_
          refine AC.region ?_
          refine AL.p (by exact g_load_refN rfl rfl rfl rfl) rfl ?_
          refine AL.q (by exact h_pure en_toUnf rfl rfl (by repeat (first | exact rfl | exact DLead.same | refine ⟨_, _, rfl, ?_, ?_⟩ | refine ⟨_, rfl, ?_⟩)) hcToUnf rfl) rfl ?_
          refine AL.q (by exact h_alloc rfl) rfl ?_
          refine AL.q (by exact h_store rfl rfl rfl rfl rfl rfl) rfl ?_
          refine AL.nil ?_
          refine th_n ?_
          refine AC.seq ?_
          refine AC.region ?_
          refine AL.p (by exact mv1 rfl) rfl ?_
          refine AL.q (by exact h_pure en_toIntS rfl rfl (by repeat (first | exact rfl | exact DLead.same | refine ⟨_, _, rfl, ?_, ?_⟩)) hcToIntS rfl) rfl ?_
          refine AL.p (by exact as1 rfl) rfl ?_
          refine AL.nil ?_
          refine th_n ?_
          refine AC.seq ?_
          refine AC.region ?_
          refine AL.p (by exact g_load_ptrN rfl rfl rfl rfl rfl) rfl ?_
          refine AL.p (by exact mv1 rfl) rfl ?_
          refine AL.p (by exact g_load_ptrN rfl rfl rfl rfl rfl) rfl ?_
          refine AL.p (by exact mv1 rfl) rfl ?_
          refine AL.q (by exact h_pure en_iFinal rfl rfl (by repeat (first | exact rfl | exact DLead.same | refine ⟨_, _, rfl, ?_, ?_⟩ | refine ⟨_, rfl, ?_⟩)) hG2 rfl) rfl ?_
          refine AL.p (by exact mv5 rfl) rfl ?_
          refine AL.p (by exact g_extract (r := .d _) rfl rfl) rfl ?_
          refine AL.p (by exact g_extract (r := .d _) rfl rfl) rfl ?_
          refine AL.p (by exact as1 rfl) rfl ?_
          refine AL.p (by exact as1 rfl) rfl ?_
          refine AL.nil ?_
          refine th_n ?_
          refine AC.seq ?_
          refine AC.seq ?_
          refine AC.region ?_
          refine AL.p (by exact mv1 rfl) rfl ?_
          refine AL.p (by exact mv1 rfl) rfl ?_
          refine AL.p (by exact g_scmp rfl rfl rfl) rfl ?_
          refine AL.p (by exact mv1 rfl) rfl ?_
          refine AL.caseGN rfl rfl (fun h4 => ?_) (fun h4 => ?_)
          · refine AL.not rfl rfl rfl rfl rfl ?_
            refine AL.not rfl rfl rfl rfl rfl ?_
            refine AL.not rfl rfl rfl rfl rfl ?_
            refine AL.p (by exact g_pickT (r := .d _) rfl rfl) rfl ?_
            refine AL.nil ?_
            refine th_n ?_
            refine AC.condT rfl ?_
            refine AC.seq ?_
            exact absurd h4 (by simp)
          · refine AL.yes rfl rfl rfl ?_
            refine AL.p (by exact mv1 rfl) rfl ?_
            refine AL.yes rfl rfl rfl ?_
            refine AL.p (by exact mv1 rfl) rfl ?_
            refine AL.yes rfl rfl rfl ?_
            refine AL.p (by exact g_neB rfl rfl rfl) rfl ?_
            refine AL.p (by exact g_pickF (r := .d _) rfl rfl) rfl ?_
            refine AL.nil ?_
            refine th_n ?_
            refine AC.condND rfl (fun h5 => ?_) (fun h5 => ?_)
            · refine AC.seq ?_
              exact absurd h5 (by simp)
            · refine AC.skip ?_
              refine th_n ?_
              refine AC.seq ?_
              refine AC.seq ?_
              refine AC.drawn' mixed_ok [[], [], [1], [0,1,2], [0,1,2,3]] (by decide) ?_
              refine DF.op 0 [] 5 rfl rfl rfl (.free rfl (NOp.of (by exact g_load_ptrN rfl rfl rfl rfl rfl))) rfl ?_
              refine DF.op 1 [] 5 rfl rfl rfl (.free rfl (NOp.of (by exact g_load_refN rfl rfl rfl rfl))) rfl ?_
              refine DF.op 2 [1] 5 rfl rfl rfl (.free rfl (by exact h_pure en_toNet rfl rfl (by repeat (first | exact rfl | exact DLead.same | refine ⟨_, _, rfl, ?_, ?_⟩ | refine ⟨_, rfl, ?_⟩)) hcToNet rfl)) rfl ?_
              refine DF.op 3 [0,1,2] 5 rfl rfl rfl (.free rfl (by exact h_pure en_eqNet rfl rfl (by repeat (first | exact rfl | exact DLead.same | refine ⟨_, _, rfl, ?_, ?_⟩ | refine ⟨_, rfl, ?_⟩)) hcEqNet rfl)) rfl ?_
              refine DF.op 4 [0,1,2,3] 5 rfl rfl rfl (.free rfl (NOp.of (by exact g_not rfl))) rfl ?_
              refine DF.fin (ps := [(0, 1), (0, 2), (1, 0), (2, 0)]) 5 rfl (by decide +kernel) (by decide +kernel) (by rfl) ?_
              refine th_n ?_
              refine AC.condB rfl (fun h6 => ?_) (fun h6 => ?_)
              · refine AC.seq ?_
                exact absurd h6 (by simp)
              · refine AC.skip ?_
                refine th_n ?_
                refine AC.seq ?_
                refine AC.seq ?_
                refine AC.drawn' mixed_ok [[], [], [1], [0,1,2], [0,1,2,3]] (by decide) ?_
                refine DF.op 0 [] 5 rfl rfl rfl (.free rfl (NOp.of (by exact g_load_ptrN rfl rfl rfl rfl rfl))) rfl ?_
                refine DF.op 1 [] 5 rfl rfl rfl (.free rfl (NOp.of (by exact g_load_refN rfl rfl rfl rfl))) rfl ?_
                refine DF.op 2 [1] 5 rfl rfl rfl (.free rfl (by exact h_pure en_toUnf rfl rfl (by repeat (first | exact rfl | exact DLead.same | refine ⟨_, _, rfl, ?_, ?_⟩ | refine ⟨_, rfl, ?_⟩)) hcToUnf rfl)) rfl ?_
                refine DF.op 3 [0,1,2] 5 rfl rfl rfl (.free rfl (by exact h_pure en_eqUnf rfl rfl (by repeat (first | exact rfl | exact DLead.same | refine ⟨_, _, rfl, ?_, ?_⟩ | refine ⟨_, rfl, ?_⟩)) hcEqUnf rfl)) rfl ?_
                refine DF.op 4 [0,1,2,3] 5 rfl rfl rfl (.free rfl (NOp.of (by exact g_not rfl))) rfl ?_
                refine DF.fin (ps := [(0, 1), (0, 2), (1, 0), (2, 0)]) 5 rfl (by decide +kernel) (by decide +kernel) (by rfl) ?_
                refine th_n ?_
                refine AC.condB rfl (fun h7 => ?_) (fun h7 => ?_)
                · refine AC.seq ?_
                  exact absurd h7 (by simp)
                · refine AC.skip ?_
                  refine th_n ?_
                  refine AC.seq ?_
                  refine AC.seq ?_
                  refine AC.region ?_
                  refine AL.p (by exact mv1 rfl) rfl ?_
                  refine AL.p (by exact mv1 rfl) rfl ?_
                  refine AL.q (by exact h_pure en_toIntS rfl rfl (by repeat (first | exact rfl | exact DLead.same | refine ⟨_, _, rfl, ?_, ?_⟩)) hcToIntS rfl) rfl ?_
                  refine AL.q (by exact h_pure en_eqIntS rfl rfl (by repeat (first | exact rfl | exact DLead.same | refine ⟨_, _, rfl, ?_, ?_⟩)) hcEqIntS rfl) rfl ?_
                  refine AL.p (by exact g_not rfl) rfl ?_
                  refine AL.nil ?_
                  refine th_n ?_
                  refine AC.condB rfl (fun h8 => ?_) (fun h8 => ?_)
                  · refine AC.seq ?_
                    exact absurd h8 (by simp)
                  · refine AC.skip ?_
                    refine th_n ?_
                    refine AC.seq ?_
                    refine AC.region ?_
                    refine AL.p (by exact as1 rfl) rfl ?_
                    refine AL.nil ?_
                    refine th_n ?_
                    refine AC.ret ?_
                    refine bq_r ?_
                    exact ret1 rfl rfl
end Go.Proofs.YtlpafiiaminjkaaGreat

