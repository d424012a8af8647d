/- Contracts of the functions of the program and of the reference, each proved by a walk through its code. -/
import Derived.WalkKit
import Derived.WalkSpells
import Derived.WalkLawsBesides
import Derived.Deep.Draws
import Derived.Lib.Hide
import Derived.Maps.AppendAt
import Derived.OwnWalk
import Derived.Deep.MidRow
import Derived.Laws.ResultCell
import Derived.Deep.Upon
import Derived.Great.FillDense
import Derived.Laws.Tables
import Derived.Laws.BytesArg
import Derived.Laws.MakeOwn
import Derived.Great.BuildSlice
import Derived.ArgAppend
import Derived.Deep.AppendSrc
import Derived.Test.YtolfgbcnielnoaaGreatProg
import Derived.KernelRfl
import Derived.Orders
import Derived.Laws.IdiomStrings
import Derived.Lib.AppendZerosOnto
import Derived.ProofKit
import Derived.OpenShut
import Derived.Laws.StructEq
import Derived.ChangeKeysEq
import Derived.Sort.Grow
import Derived.Shelf.Sort.Plain
import Derived.Shelf.Slices.In.SortNone
import Derived.Test.YtolfgbcnielnoaaGreatRows
import Derived.Test.YtolfgbcnielnoaaGreatChecked
import Derived.Test.YtolfgbcnielnoaaGreatGCc7
set_option linter.all false
set_option maxRecDepth 20000
namespace Go.Proofs.YtolfgbcnielnoaaGreat
open Go.RowKit

def ccR (N : Net) (m : List UInt8) (u : Unf) (l : List Int) : List Int := if confR N m u l = true then cutI u l else []
theorem OneT.solid {x : DV} (r : AV) (chs : List (Nat × Chunk)) (h : OneT x r chs) : r.solid = true ∧ ∀ id c, getL id chs = some c → c.solid := by
  obtain ⟨v, S, rfl, rfl⟩ := h
  refine ⟨rfl, fun id c hc => ?_⟩
  obtain ⟨_, rfl⟩ := getL_one hc
  exact trivial
set_option maxRecDepth 20000 in
set_option maxHeartbeats 4000000 in
theorem brCut_T (N : Net) (u : Unf) (L A : List ES) (s : ES) (hW : WB u L A) (hs : subU s u.es.length) : ASpec Tryz.prog 51 [.d (.ref (brD N u L A)), aU s] [] (OneT (vI (cutK (cutR u s) u.cs.length))) := by
  have hcl := hW.w.c
  have hel := hW.e
  refine ASpec.of Tryz.func51 rfl rfl fun C hC => ?_
  refine AC.seq ?_
  refine AC.region ?_
  refine AL.p (by first | exact as1 rfl | exact as2 rfl | exact as3 rfl | exact as4 rfl | exact as5 rfl | exact as6 rfl | exact as7 rfl | exact as8 rfl | exact as9 rfl) rfl ?_
  refine AL.nil ?_
  refine th_n ?_
  refine AC.seq ?_
  refine AC.region ?_
  refine AL.q (by exact h_lit rfl rfl rfl rfl rfl rfl rfl rfl) rfl ?_
  refine AL.p (by first | exact as1 rfl | exact as2 rfl | exact as3 rfl | exact as4 rfl | exact as5 rfl | exact as6 rfl | exact as7 rfl | exact as8 rfl | exact as9 rfl) rfl ?_
  refine AL.nil ?_
  refine th_n ?_
  refine AC.seq ?_
  refine AC.seq ?_
  refine AC.region ?_
  refine AL.p (by first | exact mv1 rfl | exact mv2 rfl | exact mv3 rfl | exact mv4 rfl | exact mv5 rfl | exact mv6 rfl | exact mv7 rfl | exact mv8 rfl | exact mv9 rfl) rfl ?_
  refine AL.p (by first | exact g_nilP rfl | exact g_nilR rfl) rfl ?_
  refine AL.p (by first | exact g_fa_ref rfl rfl rfl rfl rfl rfl | exact g_fa_ptr rfl rfl rfl rfl rfl) rfl ?_
  refine AL.p (by first | exact g_fa_ref rfl rfl rfl rfl rfl rfl | exact g_fa_ptr rfl rfl rfl rfl rfl) rfl ?_
  refine AL.p (by first | exact g_load_ref rfl rfl rfl | exact g_load_ptr rfl rfl rfl rfl rfl | exact g_load_refN rfl rfl rfl rfl | exact g_load_ptrN rfl rfl rfl rfl rfl | exact g_load_arr1 rfl rfl rfl rfl (by assumption) | exact g_load_arr rfl rfl rfl rfl (by first | rfl | omega) (by first | assumption | rfl) (by first | assumption | rfl)) rfl ?_
  refine AL.p (by first | exact g_len_view rfl rfl (by first | exact List.length_map _ | rfl) | exact g_len_str rfl rfl rfl | exact g_len_nil rfl rfl | exact g_len_own (sz := 1) (els := []) (e' := 0) rfl rfl (by simp only [maxLen]; omega) | exact g_len_tight rfl rfl (by first | exact List.length_map _ | rfl)) rfl ?_
  refine AL.p (by first | exact mv1 rfl | exact mv2 rfl | exact mv3 rfl | exact mv4 rfl | exact mv5 rfl | exact mv6 rfl | exact mv7 rfl | exact mv8 rfl | exact mv9 rfl) rfl ?_
  refine AL.nil ?_
  refine th_n ?_
  refine AC.block ?_
  refine AC.loop (ι := Nat) (fun k => ⟨42, 108, [(0, .d (.ref (brD N u L A))), (1, aU s), (5, .own 100 (cutK (cutR u s) k).length), (13, .d (vCs u.cs)), (14, aI u.cs.length), (15, aI k)], [(100, some (.arr 3 1 (ints (cutK (cutR u s) k))))]⟩) (fun k => k ≤ u.cs.length) (fun k => u.cs.length - k) (0) ?_ (Nat.zero_le _) ?_
  · exact Weak.ren _ [(100, _)] hC rfl (by repeat (first | exact True.intro | refine And.intro ?_ ?_ | exact DLead.same | exact DLead.eqI (by omega) | exact DLead.nil | exact rfl | refine ⟨_, _, rfl, rfl, ?_⟩ | refine ⟨_, rfl, ?_⟩ | refine ⟨_, _, rfl, ?_, ?_⟩)) (by repeat (first | exact True.intro | refine And.intro ?_ ?_ | exact DLead.same | exact DLead.eqI (by omega) | exact DLead.nil | exact rfl | refine ⟨_, _, rfl, rfl, ?_⟩ | refine ⟨_, rfl, ?_⟩ | refine ⟨_, _, rfl, ?_, ?_⟩)) rfl rfl rfl
  · intro k hk
    refine AC.seq ?_
    refine AC.region ?_
    refine AL.p (by first | exact g_cmp rfl rfl rfl | exact g_scmp rfl rfl rfl | exact g_eqB rfl rfl rfl | exact g_neB rfl rfl rfl) rfl ?_
    refine AL.nil ?_
    refine th_n ?_
    refine AC.seq ?_
    first | refine AC.condD rfl (fun h0 => ?_) (fun h0 => ?_) | refine AC.condND rfl (fun h0 => ?_) (fun h0 => ?_) | refine AC.condB rfl (fun h0 => ?_) (fun h0 => ?_) | refine AC.condNB rfl (fun h0 => ?_) (fun h0 => ?_)
    · refine AC.skip ?_
      refine th_n ?_
      refine AC.seq ?_
      refine AC.block ?_
      refine AC.seq ?_
      have hk1 : k < u.cs.length := by omega
      have hget := condsL_get hk1
      have hln := cutK_len (cutR u s) k
      have hbb := hW.w.b _ (List.getElem_mem hk1)
      have hcv : cAt u (k : Int) = u.cs[k] := cAt_nat hk1
      have hKo := brConsumed_spec N u L A s (k : Int) hW.w hs
      have hHa : 0 ≤ u.cs[k].by_ → ASpec Tryz.prog 69 [aU s, aI u.cs[k].by_] [] (Pure1 (aT (s.getLsbD u.cs[k].by_.toNat))) := fun h0 => by have := esHas_spec s u.cs[k].by_.toNat (by omega); rwa [Int.toNat_of_nonneg h0] at this
      have hq : cutR u s k = ((decide (u.cs[k].by_ < 0) || s.getLsbD u.cs[k].by_.toNat) && !consI u s (k : Int)) := by unfold cutR; rw [hcv]
      obtain ⟨b1, hb1⟩ : ∃ b, b = s.getLsbD u.cs[k].by_.toNat := ⟨_, rfl⟩
      obtain ⟨b2, hb2⟩ : ∃ b, b = consI u s (k : Int) := ⟨_, rfl⟩
      rw [← hb1] at hHa
      rw [← hb2] at hKo
      rw [← hb1, ← hb2] at hq
      refine AC.region ?_
      refine AL.p (by first | exact mv1 rfl | exact mv2 rfl | exact mv3 rfl | exact mv4 rfl | exact mv5 rfl | exact mv6 rfl | exact mv7 rfl | exact mv8 rfl | exact mv9 rfl) rfl ?_
      refine AL.p (by first | exact g_ia_view rfl rfl rfl rfl rfl (by first | rfl | assumption) (by first | assumption | rfl) | exact g_ia_own rfl rfl rfl rfl rfl (by first | rfl | assumption) (by omega) (by first | exact Nat.mul_one _ | rfl | omega)) rfl ?_
      refine AL.p (by first | exact g_load_ref rfl rfl rfl | exact g_load_ptr rfl rfl rfl rfl rfl | exact g_load_refN rfl rfl rfl rfl | exact g_load_ptrN rfl rfl rfl rfl rfl | exact g_load_arr1 rfl rfl rfl rfl (by assumption) | exact g_load_arr rfl rfl rfl rfl (by first | rfl | omega) (by first | assumption | rfl) (by first | assumption | rfl)) rfl ?_
      refine AL.q (by exact h_alloc rfl) rfl ?_
      refine AL.p (by first | exact as1 rfl | exact as2 rfl | exact as3 rfl | exact as4 rfl | exact as5 rfl | exact as6 rfl | exact as7 rfl | exact as8 rfl | exact as9 rfl) rfl ?_
      refine AL.q (by first | exact h_store rfl rfl rfl rfl rfl rfl | exact h_store_arr1 rfl rfl rfl rfl (by first | exact .same | exact .nil) (by assumption) | exact h_store_arr rfl rfl rfl rfl (by first | exact .same | exact .nil) (by first | rfl | omega) (by first | assumption | rfl) (by omega)) rfl ?_
      refine AL.nil ?_
      refine th_n ?_
      refine AC.seq ?_
      refine AC.region ?_
      refine AL.p (by first | exact g_fa_ref rfl rfl rfl rfl rfl rfl | exact g_fa_ptr rfl rfl rfl rfl rfl) rfl ?_
      refine AL.p (by first | exact g_load_ref rfl rfl rfl | exact g_load_ptr rfl rfl rfl rfl rfl | exact g_load_refN rfl rfl rfl rfl | exact g_load_ptrN rfl rfl rfl rfl rfl | exact g_load_arr1 rfl rfl rfl rfl (by assumption) | exact g_load_arr rfl rfl rfl rfl (by first | rfl | omega) (by first | assumption | rfl) (by first | assumption | rfl)) rfl ?_
      refine AL.p (by first | exact g_cmp rfl rfl rfl | exact g_scmp rfl rfl rfl | exact g_eqB rfl rfl rfl | exact g_neB rfl rfl rfl) rfl ?_
      refine AL.p (by first | exact mv1 rfl | exact mv2 rfl | exact mv3 rfl | exact mv4 rfl | exact mv5 rfl | exact mv6 rfl | exact mv7 rfl | exact mv8 rfl | exact mv9 rfl) rfl ?_
      first | refine AL.caseG rfl rfl (fun h1 => ?_) (fun h1 => ?_) | refine AL.caseGN rfl rfl (fun h1 => ?_) (fun h1 => ?_) | refine AL.caseGB rfl rfl (fun h1 => ?_) (fun h1 => ?_) | refine AL.caseGNB rfl rfl (fun h1 => ?_) (fun h1 => ?_)
      · refine AL.not rfl rfl rfl rfl rfl ?_
        refine AL.not rfl rfl rfl rfl rfl ?_
        refine AL.not rfl rfl rfl rfl rfl ?_
        refine AL.not rfl rfl rfl rfl rfl ?_
        refine AL.p (by first | exact g_pickT (r := .d _) rfl rfl | exact g_pickF (r := .d _) rfl rfl) rfl ?_
        refine AL.p (by first | exact mv1 rfl | exact mv2 rfl | exact mv3 rfl | exact mv4 rfl | exact mv5 rfl | exact mv6 rfl | exact mv7 rfl | exact mv8 rfl | exact mv9 rfl) rfl ?_
        refine AL.yes rfl rfl rfl ?_
        refine AL.p (by first | exact mv1 rfl | exact mv2 rfl | exact mv3 rfl | exact mv4 rfl | exact mv5 rfl | exact mv6 rfl | exact mv7 rfl | exact mv8 rfl | exact mv9 rfl) rfl ?_
        refine AL.yes rfl rfl rfl ?_
        refine AL.p (by first | exact mv1 rfl | exact mv2 rfl | exact mv3 rfl | exact mv4 rfl | exact mv5 rfl | exact mv6 rfl | exact mv7 rfl | exact mv8 rfl | exact mv9 rfl) rfl ?_
        refine AL.yes rfl rfl rfl ?_
        refine AL.p (by first | exact mv1 rfl | exact mv2 rfl | exact mv3 rfl | exact mv4 rfl | exact mv5 rfl | exact mv6 rfl | exact mv7 rfl | exact mv8 rfl | exact mv9 rfl) rfl ?_
        refine AL.yes rfl rfl rfl ?_
        refine AL.q (by exact h_pure en_brConsumed rfl rfl (by repeat (first | exact rfl | exact DLead.same | exact DLead.nil | refine ⟨_, _, rfl, ?_, ?_⟩ | refine ⟨_, rfl, ?_⟩)) hKo rfl) rfl ?_
        refine AL.yes rfl rfl rfl ?_
        refine AL.p (by first | exact g_not rfl | exact g_neg rfl (by first | exact wrap_i64 (by omega) | exact wrap_u8 (by omega) | exact wrap_u64 (by omega) | rfl)) rfl ?_
        refine AL.p (by first | exact g_pickT (r := .d _) rfl rfl | exact g_pickF (r := .d _) rfl rfl) rfl ?_
        refine AL.nil ?_
        refine th_n ?_
        first | refine AC.condD rfl (fun h2 => ?_) (fun h2 => ?_) | refine AC.condND rfl (fun h2 => ?_) (fun h2 => ?_) | refine AC.condB rfl (fun h2 => ?_) (fun h2 => ?_) | refine AC.condNB rfl (fun h2 => ?_) (fun h2 => ?_)
        · refine AC.region ?_
          refine AL.p (by first | exact mv1 rfl | exact mv2 rfl | exact mv3 rfl | exact mv4 rfl | exact mv5 rfl | exact mv6 rfl | exact mv7 rfl | exact mv8 rfl | exact mv9 rfl) rfl ?_
          refine AL.p (by first | exact mv1 rfl | exact mv2 rfl | exact mv3 rfl | exact mv4 rfl | exact mv5 rfl | exact mv6 rfl | exact mv7 rfl | exact mv8 rfl | exact mv9 rfl) rfl ?_
          refine AL.q (by exact h_litF rfl rfl rfl rfl rfl rfl rfl rfl) rfl ?_
          refine AL.q (by exact h_appendI (cutK (cutR u s) k) [(k : Int)] (.own rfl rfl (ints_len _).symm) (.view rfl) (by simp; omega) (by simp)) rfl ?_
          refine AL.p (by first | exact as1 rfl | exact as2 rfl | exact as3 rfl | exact as4 rfl | exact as5 rfl | exact as6 rfl | exact as7 rfl | exact as8 rfl | exact as9 rfl) rfl ?_
          refine AL.nil ?_
          refine ib_n ?_
          refine th_n ?_
          refine AC.region ?_
          refine AL.p (by first | exact g_arith rfl rfl rfl (by first | exact wrap_i64 (by omega) | exact wrap_u8 (by omega) | exact wrap_u64 (by omega) | rfl) | exact g_sadd rfl rfl (by first | assumption | omega | (simp only [ByteArray.size_append, bstr_size, List.length_take, List.length_drop, List.length_cons, List.length_nil]; omega))) rfl ?_
          refine AL.p (by first | exact mv1 rfl | exact mv2 rfl | exact mv3 rfl | exact mv4 rfl | exact mv5 rfl | exact mv6 rfl | exact mv7 rfl | exact mv8 rfl | exact mv9 rfl) rfl ?_
          refine AL.nil ?_
          refine th_n ?_
          first | rw [decide_eq_true h1] at hq | rw [decide_eq_false h1] at hq
          first | have e := cutK_t (c1 hq h2) | have e := cutK_f (c2 hq h2) | have e := cutK_t (c3 hq h2 h3) | have e := cutK_f (c4 hq h2 h3) | have e := cutK_f (c5 hq h2)
          exact ⟨k + 1, by omega, by omega, Weak.ren _ [(100, _)] hC rfl (by rw [e]; repeat (first | exact True.intro | refine And.intro ?_ ?_ | exact DLead.same | exact DLead.eqI (by omega) | exact DLead.nil | exact rfl | refine ⟨_, _, rfl, rfl, ?_⟩ | refine ⟨_, rfl, ?_⟩ | refine ⟨_, _, rfl, ?_, ?_⟩)) (by rw [e]; repeat (first | exact True.intro | refine And.intro ?_ ?_ | exact DLead.same | exact DLead.eqI (by omega) | exact DLead.nil | exact rfl | refine ⟨_, _, rfl, rfl, ?_⟩ | refine ⟨_, rfl, ?_⟩ | refine ⟨_, _, rfl, ?_, ?_⟩)) rfl rfl rfl⟩
        · refine AC.skip ?_
          refine ib_n ?_
          refine th_n ?_
          refine AC.region ?_
          refine AL.p (by first | exact g_arith rfl rfl rfl (by first | exact wrap_i64 (by omega) | exact wrap_u8 (by omega) | exact wrap_u64 (by omega) | rfl) | exact g_sadd rfl rfl (by first | assumption | omega | (simp only [ByteArray.size_append, bstr_size, List.length_take, List.length_drop, List.length_cons, List.length_nil]; omega))) rfl ?_
          refine AL.p (by first | exact mv1 rfl | exact mv2 rfl | exact mv3 rfl | exact mv4 rfl | exact mv5 rfl | exact mv6 rfl | exact mv7 rfl | exact mv8 rfl | exact mv9 rfl) rfl ?_
          refine AL.nil ?_
          refine th_n ?_
          first | rw [decide_eq_true h1] at hq | rw [decide_eq_false h1] at hq
          first | have e := cutK_t (c1 hq h2) | have e := cutK_f (c2 hq h2) | have e := cutK_t (c3 hq h2 h3) | have e := cutK_f (c4 hq h2 h3) | have e := cutK_f (c5 hq h2)
          exact ⟨k + 1, by omega, by omega, Weak.ren _ [(100, _)] hC rfl (by rw [e]; repeat (first | exact True.intro | refine And.intro ?_ ?_ | exact DLead.same | exact DLead.eqI (by omega) | exact DLead.nil | exact rfl | refine ⟨_, _, rfl, rfl, ?_⟩ | refine ⟨_, rfl, ?_⟩ | refine ⟨_, _, rfl, ?_, ?_⟩)) (by rw [e]; repeat (first | exact True.intro | refine And.intro ?_ ?_ | exact DLead.same | exact DLead.eqI (by omega) | exact DLead.nil | exact rfl | refine ⟨_, _, rfl, rfl, ?_⟩ | refine ⟨_, rfl, ?_⟩ | refine ⟨_, _, rfl, ?_, ?_⟩)) rfl rfl rfl⟩
      · refine AL.yes rfl rfl rfl ?_
        refine AL.p (by first | exact mv1 rfl | exact mv2 rfl | exact mv3 rfl | exact mv4 rfl | exact mv5 rfl | exact mv6 rfl | exact mv7 rfl | exact mv8 rfl | exact mv9 rfl) rfl ?_
        refine AL.yes rfl rfl rfl ?_
        refine AL.p (by first | exact g_fa_ref rfl rfl rfl rfl rfl rfl | exact g_fa_ptr rfl rfl rfl rfl rfl) rfl ?_
        refine AL.yes rfl rfl rfl ?_
        refine AL.p (by first | exact g_load_ref rfl rfl rfl | exact g_load_ptr rfl rfl rfl rfl rfl | exact g_load_refN rfl rfl rfl rfl | exact g_load_ptrN rfl rfl rfl rfl rfl | exact g_load_arr1 rfl rfl rfl rfl (by assumption) | exact g_load_arr rfl rfl rfl rfl (by first | rfl | omega) (by first | assumption | rfl) (by first | assumption | rfl)) rfl ?_
        refine AL.yes rfl rfl rfl ?_
        refine AL.q (by exact h_pure en_esHas rfl rfl (by repeat (first | exact rfl | exact DLead.same | exact DLead.nil | refine ⟨_, _, rfl, ?_, ?_⟩ | refine ⟨_, rfl, ?_⟩)) (hHa (by omega)) rfl) rfl ?_
        refine AL.p (by first | exact g_pickT (r := .d _) rfl rfl | exact g_pickF (r := .d _) rfl rfl) rfl ?_
        refine AL.p (by first | exact mv1 rfl | exact mv2 rfl | exact mv3 rfl | exact mv4 rfl | exact mv5 rfl | exact mv6 rfl | exact mv7 rfl | exact mv8 rfl | exact mv9 rfl) rfl ?_
        first | refine AL.caseG rfl rfl (fun h2 => ?_) (fun h2 => ?_) | refine AL.caseGN rfl rfl (fun h2 => ?_) (fun h2 => ?_) | refine AL.caseGB rfl rfl (fun h2 => ?_) (fun h2 => ?_) | refine AL.caseGNB rfl rfl (fun h2 => ?_) (fun h2 => ?_)
        · refine AL.yes rfl rfl rfl ?_
          refine AL.p (by first | exact mv1 rfl | exact mv2 rfl | exact mv3 rfl | exact mv4 rfl | exact mv5 rfl | exact mv6 rfl | exact mv7 rfl | exact mv8 rfl | exact mv9 rfl) rfl ?_
          refine AL.yes rfl rfl rfl ?_
          refine AL.p (by first | exact mv1 rfl | exact mv2 rfl | exact mv3 rfl | exact mv4 rfl | exact mv5 rfl | exact mv6 rfl | exact mv7 rfl | exact mv8 rfl | exact mv9 rfl) rfl ?_
          refine AL.yes rfl rfl rfl ?_
          refine AL.p (by first | exact mv1 rfl | exact mv2 rfl | exact mv3 rfl | exact mv4 rfl | exact mv5 rfl | exact mv6 rfl | exact mv7 rfl | exact mv8 rfl | exact mv9 rfl) rfl ?_
          refine AL.yes rfl rfl rfl ?_
          refine AL.q (by exact h_pure en_brConsumed rfl rfl (by repeat (first | exact rfl | exact DLead.same | exact DLead.nil | refine ⟨_, _, rfl, ?_, ?_⟩ | refine ⟨_, rfl, ?_⟩)) hKo rfl) rfl ?_
          refine AL.yes rfl rfl rfl ?_
          refine AL.p (by first | exact g_not rfl | exact g_neg rfl (by first | exact wrap_i64 (by omega) | exact wrap_u8 (by omega) | exact wrap_u64 (by omega) | rfl)) rfl ?_
          refine AL.p (by first | exact g_pickT (r := .d _) rfl rfl | exact g_pickF (r := .d _) rfl rfl) rfl ?_
          refine AL.nil ?_
          refine th_n ?_
          first | refine AC.condD rfl (fun h3 => ?_) (fun h3 => ?_) | refine AC.condND rfl (fun h3 => ?_) (fun h3 => ?_) | refine AC.condB rfl (fun h3 => ?_) (fun h3 => ?_) | refine AC.condNB rfl (fun h3 => ?_) (fun h3 => ?_)
          · refine AC.region ?_
            refine AL.p (by first | exact mv1 rfl | exact mv2 rfl | exact mv3 rfl | exact mv4 rfl | exact mv5 rfl | exact mv6 rfl | exact mv7 rfl | exact mv8 rfl | exact mv9 rfl) rfl ?_
            refine AL.p (by first | exact mv1 rfl | exact mv2 rfl | exact mv3 rfl | exact mv4 rfl | exact mv5 rfl | exact mv6 rfl | exact mv7 rfl | exact mv8 rfl | exact mv9 rfl) rfl ?_
            refine AL.q (by exact h_litF rfl rfl rfl rfl rfl rfl rfl rfl) rfl ?_
            refine AL.q (by exact h_appendI (cutK (cutR u s) k) [(k : Int)] (.own rfl rfl (ints_len _).symm) (.view rfl) (by simp; omega) (by simp)) rfl ?_
            refine AL.p (by first | exact as1 rfl | exact as2 rfl | exact as3 rfl | exact as4 rfl | exact as5 rfl | exact as6 rfl | exact as7 rfl | exact as8 rfl | exact as9 rfl) rfl ?_
            refine AL.nil ?_
            refine ib_n ?_
            refine th_n ?_
            refine AC.region ?_
            refine AL.p (by first | exact g_arith rfl rfl rfl (by first | exact wrap_i64 (by omega) | exact wrap_u8 (by omega) | exact wrap_u64 (by omega) | rfl) | exact g_sadd rfl rfl (by first | assumption | omega | (simp only [ByteArray.size_append, bstr_size, List.length_take, List.length_drop, List.length_cons, List.length_nil]; omega))) rfl ?_
            refine AL.p (by first | exact mv1 rfl | exact mv2 rfl | exact mv3 rfl | exact mv4 rfl | exact mv5 rfl | exact mv6 rfl | exact mv7 rfl | exact mv8 rfl | exact mv9 rfl) rfl ?_
            refine AL.nil ?_
            refine th_n ?_
            first | rw [decide_eq_true h1] at hq | rw [decide_eq_false h1] at hq
            first | have e := cutK_t (c1 hq h2) | have e := cutK_f (c2 hq h2) | have e := cutK_t (c3 hq h2 h3) | have e := cutK_f (c4 hq h2 h3) | have e := cutK_f (c5 hq h2)
            exact ⟨k + 1, by omega, by omega, Weak.ren _ [(100, _)] hC rfl (by rw [e]; repeat (first | exact True.intro | refine And.intro ?_ ?_ | exact DLead.same | exact DLead.eqI (by omega) | exact DLead.nil | exact rfl | refine ⟨_, _, rfl, rfl, ?_⟩ | refine ⟨_, rfl, ?_⟩ | refine ⟨_, _, rfl, ?_, ?_⟩)) (by rw [e]; repeat (first | exact True.intro | refine And.intro ?_ ?_ | exact DLead.same | exact DLead.eqI (by omega) | exact DLead.nil | exact rfl | refine ⟨_, _, rfl, rfl, ?_⟩ | refine ⟨_, rfl, ?_⟩ | refine ⟨_, _, rfl, ?_, ?_⟩)) rfl rfl rfl⟩
          · refine AC.skip ?_
            refine ib_n ?_
            refine th_n ?_
            refine AC.region ?_
            refine AL.p (by first | exact g_arith rfl rfl rfl (by first | exact wrap_i64 (by omega) | exact wrap_u8 (by omega) | exact wrap_u64 (by omega) | rfl) | exact g_sadd rfl rfl (by first | assumption | omega | (simp only [ByteArray.size_append, bstr_size, List.length_take, List.length_drop, List.length_cons, List.length_nil]; omega))) rfl ?_
            refine AL.p (by first | exact mv1 rfl | exact mv2 rfl | exact mv3 rfl | exact mv4 rfl | exact mv5 rfl | exact mv6 rfl | exact mv7 rfl | exact mv8 rfl | exact mv9 rfl) rfl ?_
            refine AL.nil ?_
            refine th_n ?_
            first | rw [decide_eq_true h1] at hq | rw [decide_eq_false h1] at hq
            first | have e := cutK_t (c1 hq h2) | have e := cutK_f (c2 hq h2) | have e := cutK_t (c3 hq h2 h3) | have e := cutK_f (c4 hq h2 h3) | have e := cutK_f (c5 hq h2)
            exact ⟨k + 1, by omega, by omega, Weak.ren _ [(100, _)] hC rfl (by rw [e]; repeat (first | exact True.intro | refine And.intro ?_ ?_ | exact DLead.same | exact DLead.eqI (by omega) | exact DLead.nil | exact rfl | refine ⟨_, _, rfl, rfl, ?_⟩ | refine ⟨_, rfl, ?_⟩ | refine ⟨_, _, rfl, ?_, ?_⟩)) (by rw [e]; repeat (first | exact True.intro | refine And.intro ?_ ?_ | exact DLead.same | exact DLead.eqI (by omega) | exact DLead.nil | exact rfl | refine ⟨_, _, rfl, rfl, ?_⟩ | refine ⟨_, rfl, ?_⟩ | refine ⟨_, _, rfl, ?_, ?_⟩)) rfl rfl rfl⟩
        · refine AL.not rfl rfl rfl rfl rfl ?_
          refine AL.not rfl rfl rfl rfl rfl ?_
          refine AL.not rfl rfl rfl rfl rfl ?_
          refine AL.not rfl rfl rfl rfl rfl ?_
          refine AL.not rfl rfl rfl rfl rfl ?_
          refine AL.p (by first | exact g_pickT (r := .d _) rfl rfl | exact g_pickF (r := .d _) rfl rfl) rfl ?_
          refine AL.nil ?_
          refine th_n ?_
          refine AC.condF rfl ?_
          refine AC.skip ?_
          refine ib_n ?_
          refine th_n ?_
          refine AC.region ?_
          refine AL.p (by first | exact g_arith rfl rfl rfl (by first | exact wrap_i64 (by omega) | exact wrap_u8 (by omega) | exact wrap_u64 (by omega) | rfl) | exact g_sadd rfl rfl (by first | assumption | omega | (simp only [ByteArray.size_append, bstr_size, List.length_take, List.length_drop, List.length_cons, List.length_nil]; omega))) rfl ?_
          refine AL.p (by first | exact mv1 rfl | exact mv2 rfl | exact mv3 rfl | exact mv4 rfl | exact mv5 rfl | exact mv6 rfl | exact mv7 rfl | exact mv8 rfl | exact mv9 rfl) rfl ?_
          refine AL.nil ?_
          refine th_n ?_
          first | rw [decide_eq_true h1] at hq | rw [decide_eq_false h1] at hq
          first | have e := cutK_t (c1 hq h2) | have e := cutK_f (c2 hq h2) | have e := cutK_t (c3 hq h2 h3) | have e := cutK_f (c4 hq h2 h3) | have e := cutK_f (c5 hq h2)
          exact ⟨k + 1, by omega, by omega, Weak.ren _ [(100, _)] hC rfl (by rw [e]; repeat (first | exact True.intro | refine And.intro ?_ ?_ | exact DLead.same | exact DLead.eqI (by omega) | exact DLead.nil | exact rfl | refine ⟨_, _, rfl, rfl, ?_⟩ | refine ⟨_, rfl, ?_⟩ | refine ⟨_, _, rfl, ?_, ?_⟩)) (by rw [e]; repeat (first | exact True.intro | refine And.intro ?_ ?_ | exact DLead.same | exact DLead.eqI (by omega) | exact DLead.nil | exact rfl | refine ⟨_, _, rfl, rfl, ?_⟩ | refine ⟨_, rfl, ?_⟩ | refine ⟨_, _, rfl, ?_, ?_⟩)) rfl rfl rfl⟩
    · refine AC.exit ?_
      refine th_e ?_
      refine th_e ?_
      refine ib_y ?_
      refine th_n ?_
      refine AC.seq ?_
      have hkk : k = u.cs.length := by omega
      subst hkk
      refine AC.weakR (WeakR.raw (id := 100) 5 rfl rfl (Nat.le_of_eq (ints_len _).symm) (ints_all _) (ints_flat _)) ?_
      rintro _ ⟨v, S, rfl⟩
      refine AC.region ?_
      refine AL.p (by first | exact mv1 rfl | exact mv2 rfl | exact mv3 rfl | exact mv4 rfl | exact mv5 rfl | exact mv6 rfl | exact mv7 rfl | exact mv8 rfl | exact mv9 rfl) rfl ?_
      refine AL.p (by first | exact as1 rfl | exact as2 rfl | exact as3 rfl | exact as4 rfl | exact as5 rfl | exact as6 rfl | exact as7 rfl | exact as8 rfl | exact as9 rfl) rfl ?_
      refine AL.nil ?_
      refine th_n ?_
      refine AC.ret ?_
      refine bq_r ?_
      exact retX [(0, 108)] rfl ⟨v, S, rfl, rfl⟩ (by repeat (first | exact True.intro | refine And.intro ?_ ?_ | exact DLead.same | exact DLead.eqI (by omega) | exact DLead.nil | exact rfl | refine ⟨_, _, rfl, rfl, ?_⟩ | refine ⟨_, rfl, ?_⟩ | refine ⟨_, _, rfl, ?_, ?_⟩)) (by repeat (first | exact True.intro | refine And.intro ?_ ?_ | exact DLead.same | exact DLead.eqI (by omega) | exact DLead.nil | exact rfl | refine ⟨_, _, rfl, rfl, ?_⟩ | refine ⟨_, rfl, ?_⟩ | refine ⟨_, _, rfl, ?_, ?_⟩)) rfl rfl
set_option maxHeartbeats 2000000 in
theorem sCutC_spec (N : Net) (m : List UInt8) (u : Unf) (l : List Int) (hB : NetL N) (hm : m.length ≤ 2000000) (hu : UnfL u) (hl : l.length ≤ 2000000) : ASpec Tryz.prog 19 [netA N, aS (bstr m), unfA u, .d (vI l)] [] (Pure1 (.tup [.d (vI (ccR N m u l)), aT (confR N m u l)])) := by
  have hL := l7List_spec N m u l hB hm hu hl
  change ASpec Tryz.prog 47 _ _ (Pure1 (aT (listB N m u l))) at hL
  have hgi : listB N m u l = true → Good N m u ∧ rising l 0 ((u.es.length : Int) - 1) = true ∧ l.length ≤ 60 := listB_iff
  have hcr : confR N m u l = (listB N m u l && confI u l) := rfl
  have hfr : ccR N m u l = if (listB N m u l && confI u l) = true then cutI u l else [] := rfl
  obtain ⟨g, hg⟩ : ∃ g, g = listB N m u l := ⟨_, rfl⟩
  rw [← hg] at hL hgi hcr hfr
  have hC1 : g = true → ASpec Tryz.prog 48 [unfA u, .d (vI l)] [] (Pure1 (aT (confI u l))) := fun q => by
    obtain ⟨h1, h2, h3⟩ := hgi q
    exact l7Config_spec u l h1.tru.w.w (by omega) (list_in h2)
  obtain ⟨c, hc⟩ : ∃ c, c = confI u l := ⟨_, rfl⟩
  rw [← hc] at hC1 hcr hfr
  rw [hcr, hfr]
  refine ASpec.of Tryz.func19 rfl rfl fun C hC => ?_
  refine AC.seq ?_
  refine AC.region ?_
  refine AL.q (by exact h_boxF rfl rfl) rfl ?_
  refine AL.q (by exact h_boxF rfl rfl) rfl ?_
  refine AL.p (by first | exact as1 rfl | exact as2 rfl | exact as3 rfl | exact as4 rfl | exact as5 rfl | exact as6 rfl | exact as7 rfl | exact as8 rfl | exact as9 rfl) rfl ?_
  refine AL.p (by first | exact as1 rfl | exact as2 rfl | exact as3 rfl | exact as4 rfl | exact as5 rfl | exact as6 rfl | exact as7 rfl | exact as8 rfl | exact as9 rfl) rfl ?_
  refine AL.nil ?_
  refine th_n ?_
  refine AC.seq ?_
  refine AC.seq ?_
  refine AC.region ?_
  refine AL.p (by first | exact g_load_ref rfl rfl rfl | exact g_load_ptr rfl rfl rfl rfl rfl | exact g_load_refN rfl rfl rfl rfl | exact g_load_ptrN rfl rfl rfl rfl rfl | exact g_load_arr1 rfl rfl rfl rfl (by assumption) | exact g_load_arr rfl rfl rfl rfl (by first | rfl | omega) (by first | assumption | rfl) (by first | assumption | rfl)) rfl ?_
  refine AL.p (by first | exact mv1 rfl | exact mv2 rfl | exact mv3 rfl | exact mv4 rfl | exact mv5 rfl | exact mv6 rfl | exact mv7 rfl | exact mv8 rfl | exact mv9 rfl) rfl ?_
  refine AL.p (by first | exact g_load_ref rfl rfl rfl | exact g_load_ptr rfl rfl rfl rfl rfl | exact g_load_refN rfl rfl rfl rfl | exact g_load_ptrN rfl rfl rfl rfl rfl | exact g_load_arr1 rfl rfl rfl rfl (by assumption) | exact g_load_arr rfl rfl rfl rfl (by first | rfl | omega) (by first | assumption | rfl) (by first | assumption | rfl)) rfl ?_
  refine AL.p (by first | exact mv1 rfl | exact mv2 rfl | exact mv3 rfl | exact mv4 rfl | exact mv5 rfl | exact mv6 rfl | exact mv7 rfl | exact mv8 rfl | exact mv9 rfl) rfl ?_
  refine AL.q (by exact h_pure en_l7List rfl rfl (by repeat (first | exact rfl | exact DLead.same | exact DLead.nil | refine ⟨_, _, rfl, ?_, ?_⟩ | refine ⟨_, rfl, ?_⟩ | exact ⟨_, rfl, rfl⟩)) hL rfl) rfl ?_
  refine AL.p (by first | exact g_not rfl | exact g_neg rfl (by first | exact wrap_i64 (by omega) | exact wrap_u8 (by omega) | exact wrap_u64 (by omega) | rfl)) rfl ?_
  refine AL.p (by first | exact mv1 rfl | exact mv2 rfl | exact mv3 rfl | exact mv4 rfl | exact mv5 rfl | exact mv6 rfl | exact mv7 rfl | exact mv8 rfl | exact mv9 rfl) rfl ?_
  first | refine AL.caseG rfl rfl (fun h0 => ?_) (fun h0 => ?_) | refine AL.caseGN rfl rfl (fun h0 => ?_) (fun h0 => ?_) | refine AL.caseGB rfl rfl (fun h0 => ?_) (fun h0 => ?_) | refine AL.caseGNB rfl rfl (fun h0 => ?_) (fun h0 => ?_)
  · refine AL.not rfl rfl rfl rfl rfl ?_
    refine AL.not rfl rfl rfl rfl rfl ?_
    refine AL.not rfl rfl rfl rfl rfl ?_
    refine AL.not rfl rfl rfl rfl rfl ?_
    refine AL.p (by first | exact g_pickT (r := .d _) rfl rfl | exact g_pickF (r := .d _) rfl rfl) rfl ?_
    refine AL.nil ?_
    refine th_n ?_
    refine AC.condT rfl ?_
    refine AC.seq ?_
    refine AC.region ?_
    refine AL.p (by first | exact as1 rfl | exact as2 rfl | exact as3 rfl | exact as4 rfl | exact as5 rfl | exact as6 rfl | exact as7 rfl | exact as8 rfl | exact as9 rfl) rfl ?_
    refine AL.p (by first | exact as1 rfl | exact as2 rfl | exact as3 rfl | exact as4 rfl | exact as5 rfl | exact as6 rfl | exact as7 rfl | exact as8 rfl | exact as9 rfl) rfl ?_
    refine AL.nil ?_
    refine th_n ?_
    refine AC.ret ?_
    refine th_r ?_
    refine bq_r ?_
    first | have e := and_l0 (b := c) h0 | have e := and_r0 (a := g) h1
    exact ret0 rfl (by rw [e, if_neg Bool.false_ne_true]; repeat (first | exact True.intro | refine And.intro ?_ ?_ | exact DLead.same | exact DLead.eqI (by omega) | exact DLead.nil | exact rfl | refine ⟨_, _, rfl, rfl, ?_⟩ | refine ⟨_, rfl, ?_⟩ | refine ⟨_, _, rfl, ?_, ?_⟩))
  · refine AL.yes rfl rfl rfl ?_
    refine AL.p (by first | exact g_load_ref rfl rfl rfl | exact g_load_ptr rfl rfl rfl rfl rfl | exact g_load_refN rfl rfl rfl rfl | exact g_load_ptrN rfl rfl rfl rfl rfl | exact g_load_arr1 rfl rfl rfl rfl (by assumption) | exact g_load_arr rfl rfl rfl rfl (by first | rfl | omega) (by first | assumption | rfl) (by first | assumption | rfl)) rfl ?_
    refine AL.yes rfl rfl rfl ?_
    refine AL.p (by first | exact mv1 rfl | exact mv2 rfl | exact mv3 rfl | exact mv4 rfl | exact mv5 rfl | exact mv6 rfl | exact mv7 rfl | exact mv8 rfl | exact mv9 rfl) rfl ?_
    refine AL.yes rfl rfl rfl ?_
    refine AL.q (by exact h_pure en_l7Config rfl rfl (by repeat (first | exact rfl | exact DLead.same | exact DLead.nil | refine ⟨_, _, rfl, ?_, ?_⟩ | refine ⟨_, rfl, ?_⟩)) (hC1 ((Bool.not_eq_false' _).mp h0)) rfl) rfl ?_
    refine AL.yes rfl rfl rfl ?_
    refine AL.p (by first | exact g_not rfl | exact g_neg rfl (by first | exact wrap_i64 (by omega) | exact wrap_u8 (by omega) | exact wrap_u64 (by omega) | rfl)) rfl ?_
    refine AL.p (by first | exact g_pickT (r := .d _) rfl rfl | exact g_pickF (r := .d _) rfl rfl) rfl ?_
    refine AL.nil ?_
    refine th_n ?_
    first | refine AC.condD rfl (fun h1 => ?_) (fun h1 => ?_) | refine AC.condND rfl (fun h1 => ?_) (fun h1 => ?_) | refine AC.condB rfl (fun h1 => ?_) (fun h1 => ?_) | refine AC.condNB rfl (fun h1 => ?_) (fun h1 => ?_)
    · refine AC.seq ?_
      refine AC.region ?_
      refine AL.p (by first | exact as1 rfl | exact as2 rfl | exact as3 rfl | exact as4 rfl | exact as5 rfl | exact as6 rfl | exact as7 rfl | exact as8 rfl | exact as9 rfl) rfl ?_
      refine AL.p (by first | exact as1 rfl | exact as2 rfl | exact as3 rfl | exact as4 rfl | exact as5 rfl | exact as6 rfl | exact as7 rfl | exact as8 rfl | exact as9 rfl) rfl ?_
      refine AL.nil ?_
      refine th_n ?_
      refine AC.ret ?_
      refine th_r ?_
      refine bq_r ?_
      first | have e := and_l0 (b := c) h0 | have e := and_r0 (a := g) h1
      exact ret0 rfl (by rw [e, if_neg Bool.false_ne_true]; repeat (first | exact True.intro | refine And.intro ?_ ?_ | exact DLead.same | exact DLead.eqI (by omega) | exact DLead.nil | exact rfl | refine ⟨_, _, rfl, rfl, ?_⟩ | refine ⟨_, rfl, ?_⟩ | refine ⟨_, _, rfl, ?_, ?_⟩))
    · refine AC.skip ?_
      refine th_n ?_
      refine AC.seq ?_
      have q1 := (Bool.not_eq_false' _).mp h0
      have q2 := (Bool.not_eq_false' _).mp h1
      obtain ⟨hG, hr, hll⟩ := hgi q1
      have hM := l7Cut_spec u l hG.tru.w.w (by omega) (list_in hr)
      obtain ⟨fm, hfm⟩ : ∃ fm, fm = cutI u l := ⟨_, rfl⟩
      rw [← hfm] at hM
      refine AC.region ?_
      refine AL.p (by first | exact g_load_ref rfl rfl rfl | exact g_load_ptr rfl rfl rfl rfl rfl | exact g_load_refN rfl rfl rfl rfl | exact g_load_ptrN rfl rfl rfl rfl rfl | exact g_load_arr1 rfl rfl rfl rfl (by assumption) | exact g_load_arr rfl rfl rfl rfl (by first | rfl | omega) (by first | assumption | rfl) (by first | assumption | rfl)) rfl ?_
      refine AL.p (by first | exact mv1 rfl | exact mv2 rfl | exact mv3 rfl | exact mv4 rfl | exact mv5 rfl | exact mv6 rfl | exact mv7 rfl | exact mv8 rfl | exact mv9 rfl) rfl ?_
      refine AL.q (by exact h_pure en_l7Cut rfl rfl (by repeat (first | exact rfl | exact DLead.same | exact DLead.nil | refine ⟨_, _, rfl, ?_, ?_⟩ | refine ⟨_, rfl, ?_⟩ | exact ⟨_, rfl, rfl⟩)) hM rfl) rfl ?_
      refine AL.p (by first | exact as1 rfl | exact as2 rfl | exact as3 rfl | exact as4 rfl | exact as5 rfl | exact as6 rfl | exact as7 rfl | exact as8 rfl | exact as9 rfl) rfl ?_
      refine AL.p (by first | exact as1 rfl | exact as2 rfl | exact as3 rfl | exact as4 rfl | exact as5 rfl | exact as6 rfl | exact as7 rfl | exact as8 rfl | exact as9 rfl) rfl ?_
      refine AL.nil ?_
      refine th_n ?_
      refine AC.ret ?_
      refine bq_r ?_
      exact ret0 rfl (by rw [q1, q2, Bool.and_true, if_pos rfl, ← hfm]; repeat (first | exact True.intro | refine And.intro ?_ ?_ | exact DLead.same | exact DLead.eqI (by omega) | exact DLead.nil | exact rfl | refine ⟨_, _, rfl, rfl, ?_⟩ | refine ⟨_, rfl, ?_⟩ | refine ⟨_, _, rfl, ?_, ?_⟩))
theorem en_sCutC : Enters Tryz.prog 19 := enters_of Tryz.func19 rfl rfl
set_option maxHeartbeats 2000000 in
theorem iCutC_f (N : Net) (m : List UInt8) (u : Unf) (l : List Int) (hB : NetL N) (hm : m.length ≤ 2000000) (hu : UnfL u) (hl : l.length ≤ 2000000) (hc : confR N m u l = false) : ASpec Tryz.prog 21 [netA N, aS (bstr m), unfA u, .d (vI l)] [] (TupT (ccR N m u l) (confR N m u l)) := by
  have hS := confOf_f N m u l hB hm hu hl hc
  rw [show confRes N m u l = Pure1 (.tup [.dead, .dead, aT false]) from if_neg (by rw [hc]; exact Bool.false_ne_true)] at hS
  have hR : ccR N m u l = [] := by unfold ccR; rw [hc]; rfl
  rw [hR, hc]
  refine ASpec.of Tryz.func21 rfl rfl fun C hC => ?_
  refine AC.seq ?_
  refine AC.region ?_
  refine AL.q (by exact h_boxF rfl rfl) rfl ?_
  refine AL.q (by exact h_boxF rfl rfl) rfl ?_
  refine AL.p (by first | exact as1 rfl | exact as2 rfl | exact as3 rfl | exact as4 rfl | exact as5 rfl | exact as6 rfl | exact as7 rfl | exact as8 rfl | exact as9 rfl) rfl ?_
  refine AL.p (by first | exact as1 rfl | exact as2 rfl | exact as3 rfl | exact as4 rfl | exact as5 rfl | exact as6 rfl | exact as7 rfl | exact as8 rfl | exact as9 rfl) rfl ?_
  refine AL.nil ?_
  refine th_n ?_
  refine AC.seq ?_
  refine AC.region ?_
  refine AL.p (by first | exact g_load_ref rfl rfl rfl | exact g_load_ptr rfl rfl rfl rfl rfl | exact g_load_refN rfl rfl rfl rfl | exact g_load_ptrN rfl rfl rfl rfl rfl | exact g_load_arr1 rfl rfl rfl rfl (by assumption) | exact g_load_arr rfl rfl rfl rfl (by first | rfl | omega) (by first | assumption | rfl) (by first | assumption | rfl)) rfl ?_
  refine AL.p (by first | exact mv1 rfl | exact mv2 rfl | exact mv3 rfl | exact mv4 rfl | exact mv5 rfl | exact mv6 rfl | exact mv7 rfl | exact mv8 rfl | exact mv9 rfl) rfl ?_
  refine AL.p (by first | exact g_load_ref rfl rfl rfl | exact g_load_ptr rfl rfl rfl rfl rfl | exact g_load_refN rfl rfl rfl rfl | exact g_load_ptrN rfl rfl rfl rfl rfl | exact g_load_arr1 rfl rfl rfl rfl (by assumption) | exact g_load_arr rfl rfl rfl rfl (by first | rfl | omega) (by first | assumption | rfl) (by first | assumption | rfl)) rfl ?_
  refine AL.p (by first | exact mv1 rfl | exact mv2 rfl | exact mv3 rfl | exact mv4 rfl | exact mv5 rfl | exact mv6 rfl | exact mv7 rfl | exact mv8 rfl | exact mv9 rfl) rfl ?_
  refine AL.q (by exact h_fun (cs := []) en_confOf rfl rfl (by repeat (first | exact rfl | exact DLead.same | exact DLead.nil | refine ⟨_, _, rfl, ?_, ?_⟩ | refine ⟨_, rfl, ?_⟩)) (by repeat (first | exact True.intro | refine And.intro ?_ ?_ | exact DLead.same | exact DLead.eqI (by omega) | exact DLead.nil | exact rfl | refine ⟨_, _, rfl, rfl, ?_⟩ | refine ⟨_, rfl, ?_⟩ | refine ⟨_, _, rfl, ?_, ?_⟩)) hS rfl rfl rfl rfl) rfl ?_
  refine AL.p (by first | exact mv1 rfl | exact mv2 rfl | exact mv3 rfl | exact mv4 rfl | exact mv5 rfl | exact mv6 rfl | exact mv7 rfl | exact mv8 rfl | exact mv9 rfl) rfl ?_
  refine AL.p (by first | exact g_extract (r := .d _) rfl rfl | exact g_extract (r := .own _ _) rfl rfl | exact g_extract (r := .agg _) rfl rfl | exact g_extract (r := .ptr _ _) rfl rfl | exact g_extract (r := .dead) rfl rfl) rfl ?_
  refine AL.p (by first | exact g_extract (r := .d _) rfl rfl | exact g_extract (r := .own _ _) rfl rfl | exact g_extract (r := .agg _) rfl rfl | exact g_extract (r := .ptr _ _) rfl rfl | exact g_extract (r := .dead) rfl rfl) rfl ?_
  refine AL.p (by first | exact g_extract (r := .d _) rfl rfl | exact g_extract (r := .own _ _) rfl rfl | exact g_extract (r := .agg _) rfl rfl | exact g_extract (r := .ptr _ _) rfl rfl | exact g_extract (r := .dead) rfl rfl) rfl ?_
  refine AL.p (by first | exact as1 rfl | exact as2 rfl | exact as3 rfl | exact as4 rfl | exact as5 rfl | exact as6 rfl | exact as7 rfl | exact as8 rfl | exact as9 rfl) rfl ?_
  refine AL.p (by first | exact as1 rfl | exact as2 rfl | exact as3 rfl | exact as4 rfl | exact as5 rfl | exact as6 rfl | exact as7 rfl | exact as8 rfl | exact as9 rfl) rfl ?_
  refine AL.p (by first | exact as1 rfl | exact as2 rfl | exact as3 rfl | exact as4 rfl | exact as5 rfl | exact as6 rfl | exact as7 rfl | exact as8 rfl | exact as9 rfl) rfl ?_
  refine AL.nil ?_
  refine th_n ?_
  refine AC.seq ?_
  refine AC.seq ?_
  refine AC.region ?_
  refine AL.p (by first | exact mv1 rfl | exact mv2 rfl | exact mv3 rfl | exact mv4 rfl | exact mv5 rfl | exact mv6 rfl | exact mv7 rfl | exact mv8 rfl | exact mv9 rfl) rfl ?_
  refine AL.p (by first | exact g_not rfl | exact g_neg rfl (by first | exact wrap_i64 (by omega) | exact wrap_u8 (by omega) | exact wrap_u64 (by omega) | rfl)) rfl ?_
  refine AL.nil ?_
  refine th_n ?_
  first | refine AC.condD rfl (fun h0 => ?_) (fun h0 => ?_) | refine AC.condND rfl (fun h0 => ?_) (fun h0 => ?_) | refine AC.condB rfl (fun h0 => ?_) (fun h0 => ?_) | refine AC.condNB rfl (fun h0 => ?_) (fun h0 => ?_)
  · refine AC.seq ?_
    refine AC.weak Weak.nilT ?_
    refine AC.region ?_
    refine AL.p (by first | exact as1 rfl | exact as2 rfl | exact as3 rfl | exact as4 rfl | exact as5 rfl | exact as6 rfl | exact as7 rfl | exact as8 rfl | exact as9 rfl) rfl ?_
    refine AL.p (by first | exact as1 rfl | exact as2 rfl | exact as3 rfl | exact as4 rfl | exact as5 rfl | exact as6 rfl | exact as7 rfl | exact as8 rfl | exact as9 rfl) rfl ?_
    refine AL.nil ?_
    refine th_n ?_
    refine AC.ret ?_
    refine th_r ?_
    refine bq_r ?_
    first | exact absurd h0 (by decide) | exact retX [(0, 24)] rfl ⟨_, _, rfl, rfl⟩ (by repeat (first | exact True.intro | refine And.intro ?_ ?_ | exact DLead.same | exact DLead.eqI (by omega) | exact DLead.nil | exact rfl | refine ⟨_, _, rfl, rfl, ?_⟩ | refine ⟨_, rfl, ?_⟩ | refine ⟨_, _, rfl, ?_, ?_⟩)) (by repeat (first | exact True.intro | refine And.intro ?_ ?_ | exact DLead.same | exact DLead.eqI (by omega) | exact DLead.nil | exact rfl | refine ⟨_, _, rfl, rfl, ?_⟩ | refine ⟨_, rfl, ?_⟩ | refine ⟨_, _, rfl, ?_, ?_⟩)) rfl rfl
  · refine AC.skip ?_
    refine th_n ?_
    refine AC.seq ?_
    exact absurd h0 (by decide)
set_option maxHeartbeats 2000000 in
theorem iCutC_t (N : Net) (m : List UInt8) (u : Unf) (l : List Int) (hB : NetL N) (hm : m.length ≤ 2000000) (hu : UnfL u) (hl : l.length ≤ 2000000) (hc : confR N m u l = true) : ASpec Tryz.prog 21 [netA N, aS (bstr m), unfA u, .d (vI l)] [] (TupT (ccR N m u l) (confR N m u l)) := by
  have hS := confOf_t N m u l hB hm hu hl hc
  rw [show confRes N m u l = Fun1 (.tup [.ptr 0 0, aU (setI l), aT true]) (brChs N u (locL N m u) (agaA N m u)) from if_pos hc] at hS
  obtain ⟨hlb, hci⟩ := conf_iff hc
  obtain ⟨hG, hr, hll⟩ := listB_iff hlb
  have hT := hG.tru
  have hge := hG.e
  have hR : ccR N m u l = cutI u l := by unfold ccR; rw [hc]; rfl
  rw [hR, hc]
  obtain ⟨L, hL⟩ : ∃ L, L = locL N m u := ⟨_, rfl⟩
  obtain ⟨A, hA⟩ : ∃ A, A = agaA N m u := ⟨_, rfl⟩
  rw [← hL, ← hA] at hT hS
  have hin := list_in hr
  have hsub : subU (setI l) u.es.length := fun f hf => by have := hin _ ((setI_bit (fun e he => by have := hin e he; omega) f).1 hf); omega
  have hF := brCut_T N u L A (setI l) hT.w hsub
  rw [cutK_congr (cut_both (list_set hr (by omega)))] at hF
  change ASpec Tryz.prog 51 _ _ (OneT (vI (cutI u l))) at hF
  obtain ⟨fm, hfm⟩ : ∃ fm, fm = cutI u l := ⟨_, rfl⟩
  rw [← hfm] at hF ⊢
  refine ASpec.of Tryz.func21 rfl rfl fun C hC => ?_
  refine AC.seq ?_
  refine AC.region ?_
  refine AL.q (by exact h_boxF rfl rfl) rfl ?_
  refine AL.q (by exact h_boxF rfl rfl) rfl ?_
  refine AL.p (by first | exact as1 rfl | exact as2 rfl | exact as3 rfl | exact as4 rfl | exact as5 rfl | exact as6 rfl | exact as7 rfl | exact as8 rfl | exact as9 rfl) rfl ?_
  refine AL.p (by first | exact as1 rfl | exact as2 rfl | exact as3 rfl | exact as4 rfl | exact as5 rfl | exact as6 rfl | exact as7 rfl | exact as8 rfl | exact as9 rfl) rfl ?_
  refine AL.nil ?_
  refine th_n ?_
  refine AC.seq ?_
  refine AC.region ?_
  refine AL.p (by first | exact g_load_ref rfl rfl rfl | exact g_load_ptr rfl rfl rfl rfl rfl | exact g_load_refN rfl rfl rfl rfl | exact g_load_ptrN rfl rfl rfl rfl rfl | exact g_load_arr1 rfl rfl rfl rfl (by assumption) | exact g_load_arr rfl rfl rfl rfl (by first | rfl | omega) (by first | assumption | rfl) (by first | assumption | rfl)) rfl ?_
  refine AL.p (by first | exact mv1 rfl | exact mv2 rfl | exact mv3 rfl | exact mv4 rfl | exact mv5 rfl | exact mv6 rfl | exact mv7 rfl | exact mv8 rfl | exact mv9 rfl) rfl ?_
  refine AL.p (by first | exact g_load_ref rfl rfl rfl | exact g_load_ptr rfl rfl rfl rfl rfl | exact g_load_refN rfl rfl rfl rfl | exact g_load_ptrN rfl rfl rfl rfl rfl | exact g_load_arr1 rfl rfl rfl rfl (by assumption) | exact g_load_arr rfl rfl rfl rfl (by first | rfl | omega) (by first | assumption | rfl) (by first | assumption | rfl)) rfl ?_
  refine AL.p (by first | exact mv1 rfl | exact mv2 rfl | exact mv3 rfl | exact mv4 rfl | exact mv5 rfl | exact mv6 rfl | exact mv7 rfl | exact mv8 rfl | exact mv9 rfl) rfl ?_
  refine AL.q (by exact h_fun (cs := []) en_confOf rfl rfl (by repeat (first | exact rfl | exact DLead.same | exact DLead.nil | refine ⟨_, _, rfl, ?_, ?_⟩ | refine ⟨_, rfl, ?_⟩)) (by repeat (first | exact True.intro | refine And.intro ?_ ?_ | exact DLead.same | exact DLead.eqI (by omega) | exact DLead.nil | exact rfl | refine ⟨_, _, rfl, rfl, ?_⟩ | refine ⟨_, rfl, ?_⟩ | refine ⟨_, _, rfl, ?_, ?_⟩)) hS rfl rfl rfl rfl) rfl ?_
  refine AL.p (by first | exact mv1 rfl | exact mv2 rfl | exact mv3 rfl | exact mv4 rfl | exact mv5 rfl | exact mv6 rfl | exact mv7 rfl | exact mv8 rfl | exact mv9 rfl) rfl ?_
  refine AL.p (by first | exact g_extract (r := .d _) rfl rfl | exact g_extract (r := .own _ _) rfl rfl | exact g_extract (r := .agg _) rfl rfl | exact g_extract (r := .ptr _ _) rfl rfl | exact g_extract (r := .dead) rfl rfl) rfl ?_
  refine AL.p (by first | exact g_extract (r := .d _) rfl rfl | exact g_extract (r := .own _ _) rfl rfl | exact g_extract (r := .agg _) rfl rfl | exact g_extract (r := .ptr _ _) rfl rfl | exact g_extract (r := .dead) rfl rfl) rfl ?_
  refine AL.p (by first | exact g_extract (r := .d _) rfl rfl | exact g_extract (r := .own _ _) rfl rfl | exact g_extract (r := .agg _) rfl rfl | exact g_extract (r := .ptr _ _) rfl rfl | exact g_extract (r := .dead) rfl rfl) rfl ?_
  refine AL.p (by first | exact as1 rfl | exact as2 rfl | exact as3 rfl | exact as4 rfl | exact as5 rfl | exact as6 rfl | exact as7 rfl | exact as8 rfl | exact as9 rfl) rfl ?_
  refine AL.p (by first | exact as1 rfl | exact as2 rfl | exact as3 rfl | exact as4 rfl | exact as5 rfl | exact as6 rfl | exact as7 rfl | exact as8 rfl | exact as9 rfl) rfl ?_
  refine AL.p (by first | exact as1 rfl | exact as2 rfl | exact as3 rfl | exact as4 rfl | exact as5 rfl | exact as6 rfl | exact as7 rfl | exact as8 rfl | exact as9 rfl) rfl ?_
  refine AL.nil ?_
  refine th_n ?_
  refine AC.seq ?_
  refine AC.seq ?_
  refine AC.region ?_
  refine AL.p (by first | exact mv1 rfl | exact mv2 rfl | exact mv3 rfl | exact mv4 rfl | exact mv5 rfl | exact mv6 rfl | exact mv7 rfl | exact mv8 rfl | exact mv9 rfl) rfl ?_
  refine AL.p (by first | exact g_not rfl | exact g_neg rfl (by first | exact wrap_i64 (by omega) | exact wrap_u8 (by omega) | exact wrap_u64 (by omega) | rfl)) rfl ?_
  refine AL.nil ?_
  refine th_n ?_
  first | refine AC.condD rfl (fun h0 => ?_) (fun h0 => ?_) | refine AC.condND rfl (fun h0 => ?_) (fun h0 => ?_) | refine AC.condB rfl (fun h0 => ?_) (fun h0 => ?_) | refine AC.condNB rfl (fun h0 => ?_) (fun h0 => ?_)
  · refine AC.seq ?_
    exact absurd h0 (by decide)
  · refine AC.skip ?_
    refine th_n ?_
    refine AC.seq ?_
    refine AC.region ?_
    refine AL.p (by first | exact mv1 rfl | exact mv2 rfl | exact mv3 rfl | exact mv4 rfl | exact mv5 rfl | exact mv6 rfl | exact mv7 rfl | exact mv8 rfl | exact mv9 rfl) rfl ?_
    refine AL.p (by first | exact mv1 rfl | exact mv2 rfl | exact mv3 rfl | exact mv4 rfl | exact mv5 rfl | exact mv6 rfl | exact mv7 rfl | exact mv8 rfl | exact mv9 rfl) rfl ?_
    refine AL.r (by exact h_borrowN [16, 17, 18, 19, 20] en_brCut rfl rfl hF (br_lent [16, 17, 18, 19, 20] 16 17 18 19 20 rfl rfl rfl rfl rfl rfl rfl rfl rfl rfl (.cons (.of .d) .nil)) OneT.solid) rfl ?_
    rintro _ ⟨_, _, ⟨v, S, rfl, rfl⟩, rfl⟩
    refine AL.p (by first | exact as1 rfl | exact as2 rfl | exact as3 rfl | exact as4 rfl | exact as5 rfl | exact as6 rfl | exact as7 rfl | exact as8 rfl | exact as9 rfl) rfl ?_
    refine AL.p (by first | exact as1 rfl | exact as2 rfl | exact as3 rfl | exact as4 rfl | exact as5 rfl | exact as6 rfl | exact as7 rfl | exact as8 rfl | exact as9 rfl) rfl ?_
    refine AL.nil ?_
    refine th_n ?_
    refine AC.ret ?_
    refine bq_r ?_
    exact retX [(0, 24)] rfl ⟨v, S, rfl, rfl⟩ (by repeat (first | exact True.intro | refine And.intro ?_ ?_ | exact DLead.same | exact DLead.eqI (by omega) | exact DLead.nil | exact rfl | refine ⟨_, _, rfl, rfl, ?_⟩ | refine ⟨_, rfl, ?_⟩ | refine ⟨_, _, rfl, ?_, ?_⟩)) (by repeat (first | exact True.intro | refine And.intro ?_ ?_ | exact DLead.same | exact DLead.eqI (by omega) | exact DLead.nil | exact rfl | refine ⟨_, _, rfl, rfl, ?_⟩ | refine ⟨_, rfl, ?_⟩ | refine ⟨_, _, rfl, ?_, ?_⟩)) rfl rfl
theorem en_iCutC : Enters Tryz.prog 21 := enters_of Tryz.func21 rfl rfl
theorem iCutC_T (N : Net) (m : List UInt8) (u : Unf) (l : List Int) (hB : NetL N) (hm : m.length ≤ 2000000) (hu : UnfL u) (hl : l.length ≤ 2000000) : ASpec Tryz.prog 21 [netA N, aS (bstr m), unfA u, .d (vI l)] [] (TupT (ccR N m u l) (confR N m u l)) := by
  cases hc : confR N m u l with
  | true => rw [← hc]; exact iCutC_t N m u l hB hm hu hl hc
  | false => rw [← hc]; exact iCutC_f N m u l hB hm hu hl hc

set_option linter.all false
set_option maxRecDepth 20000
end Go.Proofs.YtolfgbcnielnoaaGreat
namespace Go.Proofs.YtolfgbcnielnoaaGreat
open Go.RowKit

theorem ccR_len (N : Net) (m : List UInt8) (u : Unf) (l : List Int) (h : u.cs.length ≤ 1048576) : (ccR N m u l).length ≤ 1048576 := by
  unfold ccR
  split
  · exact Nat.le_trans (cutK_len _ _) h
  · simp
set_option maxRecDepth 20000 in
set_option maxHeartbeats 8000000 in
theorem FnExactCutConditions_spec (N : Net) (m : List UInt8) (u : Unf) (l : List Int) (hN : ArgN N) (hm : m.length ≤ 9223372036854775807) (hu : ArgU u) (hl : l.length ≤ 9223372036854775807) : ASpec Tryz.prog 4 [lnetA N, aS (bstr m), lunfA u, .d (vI l)] [] (Pure1 (aT true)) := by
  have hsz := bstr_size m
  have hS1 := szNet_spec N 1048576 (by omega) hN.l hN.t
  have hI1 := szNt_in (ts := N.ts) (left := 1048576) (by omega)
  have hZ1 := szNt_sum (ts := N.ts) (left := 1048576)
  obtain ⟨a, ha⟩ : ∃ a, a = szNt N.ts 1048576 := ⟨_, rfl⟩
  rw [← ha] at hS1 hI1 hZ1
  refine ASpec.of Tryz.func4 rfl rfl fun C hC => ?_
  refine AC.seq ?_
  refine AC.region ?_
  refine AL.q (by exact h_boxF rfl rfl) rfl ?_
  refine AL.q (by exact h_boxF rfl rfl) rfl ?_
  refine AL.p (by first | exact as1 rfl | exact as2 rfl | exact as3 rfl | exact as4 rfl | exact as5 rfl | exact as6 rfl | exact as7 rfl | exact as8 rfl | exact as9 rfl) rfl ?_
  refine AL.nil ?_
  refine th_n ?_
  refine AC.seq ?_
  refine AC.seq ?_
  refine AC.region ?_
  refine AL.p (by first | exact mv1 rfl | exact mv2 rfl | exact mv3 rfl | exact mv4 rfl | exact mv5 rfl | exact mv6 rfl | exact mv7 rfl | exact mv8 rfl | exact mv9 rfl) rfl ?_
  refine AL.p (by first | exact g_len_view rfl rfl (by first | exact List.length_map _ | rfl) | exact g_len_str rfl rfl rfl | exact g_len_nil rfl rfl | exact g_len_own (sz := 1) (els := []) (e' := 0) rfl rfl (by simp only [maxLen]; omega) | exact g_len_tight rfl rfl (by first | exact List.length_map _ | rfl)) rfl ?_
  refine AL.p (by first | exact g_cmp rfl rfl rfl | exact g_scmp rfl rfl rfl | exact g_eqB rfl rfl rfl | exact g_neB rfl rfl rfl) rfl ?_
  refine AL.nil ?_
  refine th_n ?_
  first | refine AC.condD rfl (fun h0 => ?_) (fun h0 => ?_) | refine AC.condND rfl (fun h0 => ?_) (fun h0 => ?_) | refine AC.condB rfl (fun h0 => ?_) (fun h0 => ?_) | refine AC.condNB rfl (fun h0 => ?_) (fun h0 => ?_)
  · refine AC.seq ?_
    refine AC.region ?_
    refine AL.p (by first | exact as1 rfl | exact as2 rfl | exact as3 rfl | exact as4 rfl | exact as5 rfl | exact as6 rfl | exact as7 rfl | exact as8 rfl | exact as9 rfl) rfl ?_
    refine AL.nil ?_
    refine th_n ?_
    refine AC.ret ?_
    refine th_r ?_
    refine bq_r ?_
    exact ret1 rfl rfl
  · refine AC.skip ?_
    refine th_n ?_
    refine AC.seq ?_
    refine AC.seq ?_
    refine AC.region ?_
    refine AL.p (by first | exact mv1 rfl | exact mv2 rfl | exact mv3 rfl | exact mv4 rfl | exact mv5 rfl | exact mv6 rfl | exact mv7 rfl | exact mv8 rfl | exact mv9 rfl) rfl ?_
    refine AL.p (by first | exact g_len_view rfl rfl (by first | exact List.length_map _ | rfl) | exact g_len_str rfl rfl rfl | exact g_len_nil rfl rfl | exact g_len_own (sz := 1) (els := []) (e' := 0) rfl rfl (by simp only [maxLen]; omega) | exact g_len_tight rfl rfl (by first | exact List.length_map _ | rfl)) rfl ?_
    refine AL.p (by first | exact g_cmp rfl rfl rfl | exact g_scmp rfl rfl rfl | exact g_eqB rfl rfl rfl | exact g_neB rfl rfl rfl) rfl ?_
    refine AL.nil ?_
    refine th_n ?_
    first | refine AC.condD rfl (fun h1 => ?_) (fun h1 => ?_) | refine AC.condND rfl (fun h1 => ?_) (fun h1 => ?_) | refine AC.condB rfl (fun h1 => ?_) (fun h1 => ?_) | refine AC.condNB rfl (fun h1 => ?_) (fun h1 => ?_)
    · refine AC.seq ?_
      refine AC.region ?_
      refine AL.p (by first | exact as1 rfl | exact as2 rfl | exact as3 rfl | exact as4 rfl | exact as5 rfl | exact as6 rfl | exact as7 rfl | exact as8 rfl | exact as9 rfl) rfl ?_
      refine AL.nil ?_
      refine th_n ?_
      refine AC.ret ?_
      refine th_r ?_
      refine bq_r ?_
      exact ret1 rfl rfl
    · refine AC.skip ?_
      refine th_n ?_
      refine AC.seq ?_
      refine AC.region ?_
      refine AL.p (by first | exact as1 rfl | exact as2 rfl | exact as3 rfl | exact as4 rfl | exact as5 rfl | exact as6 rfl | exact as7 rfl | exact as8 rfl | exact as9 rfl) rfl ?_
      refine AL.nil ?_
      refine th_n ?_
      refine AC.seq ?_
      refine AC.region ?_
      refine AL.p (by first | exact g_load_ref rfl rfl rfl | exact g_load_ptr rfl rfl rfl rfl rfl | exact g_load_refN rfl rfl rfl rfl | exact g_load_ptrN rfl rfl rfl rfl rfl | exact g_load_arr1 rfl rfl rfl rfl (by assumption) | exact g_load_arr rfl rfl rfl rfl (by first | rfl | omega) (by first | assumption | rfl) (by first | assumption | rfl)) rfl ?_
      refine AL.p (by first | exact mv1 rfl | exact mv2 rfl | exact mv3 rfl | exact mv4 rfl | exact mv5 rfl | exact mv6 rfl | exact mv7 rfl | exact mv8 rfl | exact mv9 rfl) rfl ?_
      refine AL.q (by exact h_pure en_szNet rfl rfl (by repeat (first | exact rfl | exact DLead.same | exact DLead.nil | refine ⟨_, _, rfl, ?_, ?_⟩ | refine ⟨_, rfl, ?_⟩ | exact ⟨_, rfl, rfl⟩)) hS1 rfl) rfl ?_
      refine AL.p (by first | exact as1 rfl | exact as2 rfl | exact as3 rfl | exact as4 rfl | exact as5 rfl | exact as6 rfl | exact as7 rfl | exact as8 rfl | exact as9 rfl) rfl ?_
      refine AL.nil ?_
      refine th_n ?_
      refine AC.seq ?_
      refine AC.seq ?_
      refine AC.region ?_
      refine AL.p (by first | exact mv1 rfl | exact mv2 rfl | exact mv3 rfl | exact mv4 rfl | exact mv5 rfl | exact mv6 rfl | exact mv7 rfl | exact mv8 rfl | exact mv9 rfl) rfl ?_
      refine AL.p (by first | exact g_cmp rfl rfl rfl | exact g_scmp rfl rfl rfl | exact g_eqB rfl rfl rfl | exact g_neB rfl rfl rfl) rfl ?_
      refine AL.nil ?_
      refine th_n ?_
      first | refine AC.condD rfl (fun h2 => ?_) (fun h2 => ?_) | refine AC.condND rfl (fun h2 => ?_) (fun h2 => ?_) | refine AC.condB rfl (fun h2 => ?_) (fun h2 => ?_) | refine AC.condNB rfl (fun h2 => ?_) (fun h2 => ?_)
      · refine AC.seq ?_
        refine AC.region ?_
        refine AL.p (by first | exact as1 rfl | exact as2 rfl | exact as3 rfl | exact as4 rfl | exact as5 rfl | exact as6 rfl | exact as7 rfl | exact as8 rfl | exact as9 rfl) rfl ?_
        refine AL.nil ?_
        refine th_n ?_
        refine AC.ret ?_
        refine th_r ?_
        refine bq_r ?_
        exact ret1 rfl rfl
      · refine AC.skip ?_
        refine th_n ?_
        refine AC.seq ?_
        have hNl : (N.ts.length : Int) ≤ 1048576 ∧ ∀ t, t ∈ N.ts → (t.pre.length : Int) ≤ 1048576 ∧ (t.post.length : Int) ≤ 1048576 := by rcases hI1 with h | h; omega; exact h.2.2
        have haI : 0 ≤ a ∧ a ≤ 1048576 := by omega
        have hS2 := szUnf_spec u a haI hu.c hu.l hu.t
        have hI2 := szU_in (u := u) haI
        have hZ2 := szU_sum (u := u) (left := a)
        obtain ⟨b, hb⟩ : ∃ b, b = szU u a := ⟨_, rfl⟩
        rw [← hb] at hS2 hI2 hZ2
        refine AC.region ?_
        refine AL.p (by first | exact g_load_ref rfl rfl rfl | exact g_load_ptr rfl rfl rfl rfl rfl | exact g_load_refN rfl rfl rfl rfl | exact g_load_ptrN rfl rfl rfl rfl rfl | exact g_load_arr1 rfl rfl rfl rfl (by assumption) | exact g_load_arr rfl rfl rfl rfl (by first | rfl | omega) (by first | assumption | rfl) (by first | assumption | rfl)) rfl ?_
        refine AL.p (by first | exact mv1 rfl | exact mv2 rfl | exact mv3 rfl | exact mv4 rfl | exact mv5 rfl | exact mv6 rfl | exact mv7 rfl | exact mv8 rfl | exact mv9 rfl) rfl ?_
        refine AL.q (by exact h_pure en_szUnf rfl rfl (by repeat (first | exact rfl | exact DLead.same | exact DLead.nil | refine ⟨_, _, rfl, ?_, ?_⟩ | refine ⟨_, rfl, ?_⟩ | exact ⟨_, rfl, rfl⟩)) hS2 rfl) rfl ?_
        refine AL.p (by first | exact as1 rfl | exact as2 rfl | exact as3 rfl | exact as4 rfl | exact as5 rfl | exact as6 rfl | exact as7 rfl | exact as8 rfl | exact as9 rfl) rfl ?_
        refine AL.nil ?_
        refine th_n ?_
        refine AC.seq ?_
        refine AC.seq ?_
        refine AC.region ?_
        refine AL.p (by first | exact mv1 rfl | exact mv2 rfl | exact mv3 rfl | exact mv4 rfl | exact mv5 rfl | exact mv6 rfl | exact mv7 rfl | exact mv8 rfl | exact mv9 rfl) rfl ?_
        refine AL.p (by first | exact g_cmp rfl rfl rfl | exact g_scmp rfl rfl rfl | exact g_eqB rfl rfl rfl | exact g_neB rfl rfl rfl) rfl ?_
        refine AL.nil ?_
        refine th_n ?_
        first | refine AC.condD rfl (fun h3 => ?_) (fun h3 => ?_) | refine AC.condND rfl (fun h3 => ?_) (fun h3 => ?_) | refine AC.condB rfl (fun h3 => ?_) (fun h3 => ?_) | refine AC.condNB rfl (fun h3 => ?_) (fun h3 => ?_)
        · refine AC.seq ?_
          refine AC.region ?_
          refine AL.p (by first | exact as1 rfl | exact as2 rfl | exact as3 rfl | exact as4 rfl | exact as5 rfl | exact as6 rfl | exact as7 rfl | exact as8 rfl | exact as9 rfl) rfl ?_
          refine AL.nil ?_
          refine th_n ?_
          refine AC.ret ?_
          refine th_r ?_
          refine bq_r ?_
          exact ret1 rfl rfl
        · refine AC.skip ?_
          refine th_n ?_
          refine AC.seq ?_
          have hm' : m.length ≤ 1048576 := by omega
          have hl' : l.length ≤ 1048576 := by omega
          have hUl : (u.cs.length : Int) ≤ 1048576 ∧ (u.es.length : Int) ≤ 1048576 ∧ ∀ e, e ∈ u.es → (e.pre.length : Int) ≤ 1048576 := by rcases hI2 with h | h; omega; exact ⟨by omega, by omega, fun e he => by have := h.2.2.2.2 e he; omega⟩
          have hNl1 : N.ts.length ≤ 1048576 := by omega
          have hNl2 : ∀ t, t ∈ N.ts → t.pre.length ≤ 1048576 ∧ t.post.length ≤ 1048576 := fun t ht => by have := hNl.2 t ht; omega
          have hUc : u.cs.length ≤ 1048576 := by omega
          have hUe : u.es.length ≤ 1048576 := by omega
          have hUt : ∀ e, e ∈ u.es → e.pre.length ≤ 1048576 := fun e he => by have := hUl.2.2 e he; omega
          have hNL : NetL N := ⟨hN.p, by omega, fun t ht => by have := hNl2 t ht; omega⟩
          have hUL : UnfL u := ⟨hUe, hUc, fun e he => by have := hUt e he; omega⟩
          have hcToNet := toNet_spec N hNl1 hNl2
          have hcToUnf := toUnf_spec u hUc hUe hUt
          have hcToIntS := toIntS_spec l hl'
          have hcEqNet := eqNet_spec N N hNl1 hNl1 hNl2 hNl2
          have hcEqUnf := eqUnf_spec u u hUe hUe hUt hUt hUc hUc
          have hcEqL := eqIntS_spec l l hl' hl'
          rw [decide_eq_true rfl] at hcEqNet hcEqUnf hcEqL
          have hG1 := sCutC_spec N m u l hNL (by omega) hUL (by omega)
          have hG2 := iCutC_T N m u l hNL (by omega) hUL (by omega)
          have hgl := ccR_len N m u l hUc
          obtain ⟨g0, hg0⟩ : ∃ g, g = ccR N m u l := ⟨_, rfl⟩
          rw [← hg0] at hG1 hG2 hgl
          obtain ⟨g1, hg1⟩ : ∃ g, g = confR N m u l := ⟨_, rfl⟩
          rw [← hg1] at hG1 hG2
          have hG2F := TupT.thaw hG2
          have hcEq0 := eqIntS_spec g0 g0 hgl hgl
          rw [decide_eq_true rfl] at hcEq0
          have hB1 : (sumL wT N.ts : Int) ≤ 1048576 := by have := hZ1 (by omega); omega
          have hB2 : (sumL wC u.cs : Int) + (sumL wE u.es : Int) ≤ 2097152 := by have := hZ2 (by omega); omega
          have hcN := markNet_T N.ts 1 (dI N.places) hNl1 hNl2 (by omega)
          have hcU := markUnf_T u.cs u.es (1 + (sumL wT N.ts : Nat)) hUc hUe hUt (by omega)
          have hcJ := fun k (hk : 0 ≤ k ∧ k ≤ 1073741824) => markIntS_T l k hl' hk
          have hcI := markIntS_T g0 1 hgl (by omega)
          have hcH := heldIntS_spec 1 g0.length hgl (by omega)
          refine AC.drawn' mixed_ok [[], [0], [], [], [0,1,3], [], [0,1,3,4,5], [0,1,2,3,4,5,6], [0,1,2,3,4,5,6,7], [0,1,2,3,4,5,6,7,8], [0,1,2,3,4,5,6,7,8], [0,1,2,3,4,5,6,7,8,9], [0,1,2,3,4,5,6,7,8,9,10,11]] (by decide) ?_
          refine DF.op 0 [] 13 rfl rfl rfl (.free rfl (NOp.of (by first | exact g_load_ref rfl rfl rfl | exact g_load_ptr rfl rfl rfl rfl rfl | exact g_load_refN rfl rfl rfl rfl | exact g_load_ptrN rfl rfl rfl rfl rfl | exact g_load_arr1 rfl rfl rfl rfl (by assumption) | exact g_load_arr rfl rfl rfl rfl (by first | rfl | omega) (by first | assumption | rfl) (by first | assumption | rfl)))) rfl ?_
          refine DF.op 1 [0] 13 rfl rfl rfl (.free rfl (by exact h_pure en_toNet rfl rfl (by repeat (first | exact rfl | exact DLead.same | exact DLead.nil | refine ⟨_, _, rfl, ?_, ?_⟩ | refine ⟨_, rfl, ?_⟩ | exact ⟨_, rfl, rfl⟩)) hcToNet rfl)) rfl ?_
          refine DF.op 2 [] 13 rfl rfl rfl (.free rfl (NOp.of (by first | exact mv1 rfl | exact mv2 rfl | exact mv3 rfl | exact mv4 rfl | exact mv5 rfl | exact mv6 rfl | exact mv7 rfl | exact mv8 rfl | exact mv9 rfl))) rfl ?_
          refine DF.op 3 [] 13 rfl rfl rfl (.free rfl (NOp.of (by first | exact g_load_ref rfl rfl rfl | exact g_load_ptr rfl rfl rfl rfl rfl | exact g_load_refN rfl rfl rfl rfl | exact g_load_ptrN rfl rfl rfl rfl rfl | exact g_load_arr1 rfl rfl rfl rfl (by assumption) | exact g_load_arr rfl rfl rfl rfl (by first | rfl | omega) (by first | assumption | rfl) (by first | assumption | rfl)))) rfl ?_
          refine DF.op 4 [0,1,3] 13 rfl rfl rfl (.free rfl (by exact h_pure en_toUnf rfl rfl (by repeat (first | exact rfl | exact DLead.same | exact DLead.nil | refine ⟨_, _, rfl, ?_, ?_⟩ | refine ⟨_, rfl, ?_⟩ | exact ⟨_, rfl, rfl⟩)) hcToUnf rfl)) rfl ?_
          refine DF.op 5 [] 13 rfl rfl rfl (.free rfl (NOp.of (by first | exact mv1 rfl | exact mv2 rfl | exact mv3 rfl | exact mv4 rfl | exact mv5 rfl | exact mv6 rfl | exact mv7 rfl | exact mv8 rfl | exact mv9 rfl))) rfl ?_
          refine DF.op 6 [0,1,3,4,5] 13 rfl rfl rfl (.free rfl (by exact h_pure en_toIntS rfl rfl (by repeat (first | exact rfl | exact DLead.same | exact DLead.nil | refine ⟨_, _, rfl, ?_, ?_⟩ | refine ⟨_, rfl, ?_⟩ | exact ⟨_, rfl, rfl⟩)) hcToIntS rfl)) rfl ?_
          refine DF.op 7 [0,1,2,3,4,5,6] 13 rfl rfl rfl (.free rfl (by exact h_pure en_sCutC rfl rfl (by repeat (first | exact rfl | exact DLead.same | exact DLead.nil | refine ⟨_, _, rfl, ?_, ?_⟩ | refine ⟨_, rfl, ?_⟩ | exact ⟨_, rfl, rfl⟩)) hG1 rfl)) rfl ?_
          refine DF.op 8 [0,1,2,3,4,5,6,7] 13 rfl rfl rfl (.free rfl (NOp.of (by first | exact mv1 rfl | exact mv2 rfl | exact mv3 rfl | exact mv4 rfl | exact mv5 rfl | exact mv6 rfl | exact mv7 rfl | exact mv8 rfl | exact mv9 rfl))) rfl ?_
          refine DF.op 9 [0,1,2,3,4,5,6,7,8] 13 rfl rfl rfl (.free rfl (NOp.of (by first | exact g_extract (r := .d _) rfl rfl | exact g_extract (r := .own _ _) rfl rfl | exact g_extract (r := .agg _) rfl rfl | exact g_extract (r := .ptr _ _) rfl rfl | exact g_extract (r := .dead) rfl rfl))) rfl ?_
          refine DF.op 10 [0,1,2,3,4,5,6,7,8] 13 rfl rfl rfl (.free rfl (NOp.of (by first | exact g_extract (r := .d _) rfl rfl | exact g_extract (r := .own _ _) rfl rfl | exact g_extract (r := .agg _) rfl rfl | exact g_extract (r := .ptr _ _) rfl rfl | exact g_extract (r := .dead) rfl rfl))) rfl ?_
          refine DF.op 11 [0,1,2,3,4,5,6,7,8,9] 13 rfl rfl rfl (.free rfl (NOp.of (by first | exact as1 rfl | exact as2 rfl | exact as3 rfl | exact as4 rfl | exact as5 rfl | exact as6 rfl | exact as7 rfl | exact as8 rfl | exact as9 rfl))) rfl ?_
          refine DF.op 12 [0,1,2,3,4,5,6,7,8,9,10,11] 13 rfl rfl rfl (.free rfl (NOp.of (by first | exact as1 rfl | exact as2 rfl | exact as3 rfl | exact as4 rfl | exact as5 rfl | exact as6 rfl | exact as7 rfl | exact as8 rfl | exact as9 rfl))) rfl ?_
          refine DF.fin (ps := [(0, 2), (0, 3), (0, 5), (1, 2), (1, 3), (1, 5), (2, 0), (2, 1), (2, 3), (2, 4), (2, 5), (2, 6), (3, 0), (3, 1), (3, 2), (3, 5), (4, 2), (4, 5), (5, 0), (5, 1), (5, 2), (5, 3), (5, 4), (6, 2), (9, 10), (10, 9), (10, 11), (11, 10)]) 13 rfl (by decide +kernel) (by decide +kernel) (by rfl) ?_
          refine th_n ?_
          refine AC.seq ?_
          refine AC.region ?_
          refine AL.p (by first | exact g_load_ref rfl rfl rfl | exact g_load_ptr rfl rfl rfl rfl rfl | exact g_load_refN rfl rfl rfl rfl | exact g_load_ptrN rfl rfl rfl rfl rfl | exact g_load_arr1 rfl rfl rfl rfl (by assumption) | exact g_load_arr rfl rfl rfl rfl (by first | rfl | omega) (by first | assumption | rfl) (by first | assumption | rfl)) rfl ?_
          refine AL.r (by exact h_funR (cs := []) en_toNet rfl rfl (by repeat (first | exact rfl | exact DLead.same | exact DLead.nil | refine ⟨_, _, rfl, ?_, ?_⟩ | refine ⟨_, rfl, ?_⟩)) (by repeat (first | exact True.intro | refine And.intro ?_ ?_ | exact DLead.same | exact DLead.eqI (by omega) | exact DLead.nil | exact rfl | refine ⟨_, _, rfl, rfl, ?_⟩ | refine ⟨_, rfl, ?_⟩ | refine ⟨_, _, rfl, ?_, ?_⟩)) (toNet_T N hNl1 hNl2) rfl rfl rfl) rfl ?_
          rintro _ ⟨_, _, ⟨x1, x2, SA, rfl, rfl⟩, rfl⟩
          refine AL.q (by exact h_alloc rfl) rfl ?_
          refine AL.q (by first | exact h_store rfl rfl rfl rfl rfl rfl | exact h_store_arr1 rfl rfl rfl rfl (by first | exact .same | exact .nil) (by assumption) | exact h_store_arr rfl rfl rfl rfl (by first | exact .same | exact .nil) (by first | rfl | omega) (by first | assumption | rfl) (by omega)) rfl ?_
          refine AL.nil ?_
          refine th_n ?_
          refine AC.seq ?_
          refine AC.region ?_
          refine AL.p (by first | exact g_load_ref rfl rfl rfl | exact g_load_ptr rfl rfl rfl rfl rfl | exact g_load_refN rfl rfl rfl rfl | exact g_load_ptrN rfl rfl rfl rfl rfl | exact g_load_arr1 rfl rfl rfl rfl (by assumption) | exact g_load_arr rfl rfl rfl rfl (by first | rfl | omega) (by first | assumption | rfl) (by first | assumption | rfl)) rfl ?_
          refine AL.r (by exact h_funR (cs := []) en_toUnf rfl rfl (by repeat (first | exact rfl | exact DLead.same | exact DLead.nil | refine ⟨_, _, rfl, ?_, ?_⟩ | refine ⟨_, rfl, ?_⟩)) (by repeat (first | exact True.intro | refine And.intro ?_ ?_ | exact DLead.same | exact DLead.eqI (by omega) | exact DLead.nil | exact rfl | refine ⟨_, _, rfl, rfl, ?_⟩ | refine ⟨_, rfl, ?_⟩ | refine ⟨_, _, rfl, ?_, ?_⟩)) (toUnf_T u hUc hUe hUt) rfl rfl rfl) rfl ?_
          rintro _ ⟨_, _, ⟨y1, y2, SB, rfl, rfl⟩, rfl⟩
          refine AL.q (by exact h_alloc rfl) rfl ?_
          refine AL.q (by first | exact h_store rfl rfl rfl rfl rfl rfl | exact h_store_arr1 rfl rfl rfl rfl (by first | exact .same | exact .nil) (by assumption) | exact h_store_arr rfl rfl rfl rfl (by first | exact .same | exact .nil) (by first | rfl | omega) (by first | assumption | rfl) (by omega)) rfl ?_
          refine AL.nil ?_
          refine th_n ?_
          refine AC.seq ?_
          refine AC.region ?_
          refine AL.p (by first | exact mv1 rfl | exact mv2 rfl | exact mv3 rfl | exact mv4 rfl | exact mv5 rfl | exact mv6 rfl | exact mv7 rfl | exact mv8 rfl | exact mv9 rfl) rfl ?_
          refine AL.r (by exact h_funR (cs := []) en_toIntS rfl rfl (by repeat (first | exact rfl | exact DLead.same | exact DLead.nil | refine ⟨_, _, rfl, ?_, ?_⟩ | refine ⟨_, rfl, ?_⟩)) (by repeat (first | exact True.intro | refine And.intro ?_ ?_ | exact DLead.same | exact DLead.eqI (by omega) | exact DLead.nil | exact rfl | refine ⟨_, _, rfl, rfl, ?_⟩ | refine ⟨_, rfl, ?_⟩ | refine ⟨_, _, rfl, ?_, ?_⟩)) (toIntS_T l hl') rfl rfl rfl) rfl ?_
          rintro _ ⟨_, _, ⟨z1, SJ, rfl, rfl⟩, rfl⟩
          refine AL.p (by first | exact as1 rfl | exact as2 rfl | exact as3 rfl | exact as4 rfl | exact as5 rfl | exact as6 rfl | exact as7 rfl | exact as8 rfl | exact as9 rfl) rfl ?_
          refine AL.nil ?_
          refine th_n ?_
          refine AC.seq ?_
          refine AC.region ?_
          refine AL.p (by first | exact g_load_ref rfl rfl rfl | exact g_load_ptr rfl rfl rfl rfl rfl | exact g_load_refN rfl rfl rfl rfl | exact g_load_ptrN rfl rfl rfl rfl rfl | exact g_load_arr1 rfl rfl rfl rfl (by assumption) | exact g_load_arr rfl rfl rfl rfl (by first | rfl | omega) (by first | assumption | rfl) (by first | assumption | rfl)) rfl ?_
          refine AL.p (by first | exact mv1 rfl | exact mv2 rfl | exact mv3 rfl | exact mv4 rfl | exact mv5 rfl | exact mv6 rfl | exact mv7 rfl | exact mv8 rfl | exact mv9 rfl) rfl ?_
          refine AL.p (by first | exact g_load_ref rfl rfl rfl | exact g_load_ptr rfl rfl rfl rfl rfl | exact g_load_refN rfl rfl rfl rfl | exact g_load_ptrN rfl rfl rfl rfl rfl | exact g_load_arr1 rfl rfl rfl rfl (by assumption) | exact g_load_arr rfl rfl rfl rfl (by first | rfl | omega) (by first | assumption | rfl) (by first | assumption | rfl)) rfl ?_
          refine AL.p (by first | exact mv1 rfl | exact mv2 rfl | exact mv3 rfl | exact mv4 rfl | exact mv5 rfl | exact mv6 rfl | exact mv7 rfl | exact mv8 rfl | exact mv9 rfl) rfl ?_
          refine AL.r (by exact h_borrowN [136, 160, 184] en_iCutC rfl rfl hG2 (.cons (.aggs (ds := [dI N.places, vTs N.ts]) (.cons (.pred (id := 136) rfl rfl (fun w h => TL.data h 0 rfl rfl)) (.cons (.pred (id := 136) rfl rfl (fun w h => TL.data h 1 rfl rfl)) .nil))) (.cons (.of .d) (.cons (.aggs (ds := [vCs u.cs, vEs u.es]) (.cons (.pred (id := 160) rfl rfl (fun w h => TL.data h 0 rfl rfl)) (.cons (.pred (id := 160) rfl rfl (fun w h => TL.data h 1 rfl rfl)) .nil))) (.cons (.of (.pred (id := 184) rfl rfl (fun w h => TRep.data h))) .nil)))) TupT.solid) rfl ?_
          rintro _ ⟨_, _, ⟨v, SG, rfl, rfl⟩, rfl⟩
          refine AL.p (by first | exact mv1 rfl | exact mv2 rfl | exact mv3 rfl | exact mv4 rfl | exact mv5 rfl | exact mv6 rfl | exact mv7 rfl | exact mv8 rfl | exact mv9 rfl) rfl ?_
          refine AL.p (by first | exact g_extract (r := .d _) rfl rfl | exact g_extract (r := .own _ _) rfl rfl | exact g_extract (r := .agg _) rfl rfl | exact g_extract (r := .ptr _ _) rfl rfl | exact g_extract (r := .dead) rfl rfl) rfl ?_
          refine AL.p (by first | exact g_extract (r := .d _) rfl rfl | exact g_extract (r := .own _ _) rfl rfl | exact g_extract (r := .agg _) rfl rfl | exact g_extract (r := .ptr _ _) rfl rfl | exact g_extract (r := .dead) rfl rfl) rfl ?_
          refine AL.p (by first | exact as1 rfl | exact as2 rfl | exact as3 rfl | exact as4 rfl | exact as5 rfl | exact as6 rfl | exact as7 rfl | exact as8 rfl | exact as9 rfl) rfl ?_
          refine AL.p (by first | exact as1 rfl | exact as2 rfl | exact as3 rfl | exact as4 rfl | exact as5 rfl | exact as6 rfl | exact as7 rfl | exact as8 rfl | exact as9 rfl) rfl ?_
          refine AL.nil ?_
          refine th_n ?_
          refine AC.seq ?_
          refine AC.seq ?_
          refine AC.weak (t := ⟨148, 208, [(1, aS (bstr m)), (3, .d (vI l)), (4, .d (.ref [dI N.places, vLTs N.ts])), (6, .d (.ref [vLCs u.cs, vLEs u.es])), (10, .d (vI g0)), (11, aT g1), (12, .ptr 100 0), (13, .ptr 101 0), (14, .d (.val z1)), (15, .d (.val v)), (16, aT g1)], [(100, some (.cells 36 [.d (.val x1), .d (.val x2)])), (101, some (.cells 41 [.d (.val y1), .d (.val y2)])), (102, some (.pred SA fun w => TL w SA [dI N.places, vTs N.ts] [x1, x2])), (103, some (.pred SB fun w => TL w SB [vCs u.cs, vEs u.es] [y1, y2])), (104, some (.pred SG fun w => TRep w SG (vI g0) v)), (105, some (.pred SJ fun w => TRep w SJ (vI l) z1))]⟩) (Weak.ren _ [(100, 144), (101, 168), (102, 136), (103, 160), (104, 192), (105, 184)] hC rfl (by repeat (first | exact True.intro | refine And.intro ?_ ?_ | exact DLead.same | exact DLead.eqI (by omega) | exact DLead.nil | exact rfl | refine ⟨_, _, rfl, rfl, ?_⟩ | refine ⟨_, rfl, ?_⟩ | refine ⟨_, _, rfl, ?_, ?_⟩)) (by repeat (first | exact True.intro | refine And.intro ?_ ?_ | exact DLead.same | exact DLead.eqI (by omega) | exact DLead.nil | exact rfl | refine ⟨_, _, rfl, rfl, ?_⟩ | refine ⟨_, rfl, ?_⟩ | refine ⟨_, _, rfl, ?_, ?_⟩)) rfl rfl rfl) ?_
          refine AC.region ?_
          refine AL.p (by first | exact mv1 rfl | exact mv2 rfl | exact mv3 rfl | exact mv4 rfl | exact mv5 rfl | exact mv6 rfl | exact mv7 rfl | exact mv8 rfl | exact mv9 rfl) rfl ?_
          refine AL.p (by first | exact mv1 rfl | exact mv2 rfl | exact mv3 rfl | exact mv4 rfl | exact mv5 rfl | exact mv6 rfl | exact mv7 rfl | exact mv8 rfl | exact mv9 rfl) rfl ?_
          refine AL.q (by exact h_borrow [104] en_eqIntS rfl rfl hcEq0 (.cons (.of (.pred (id := 104) rfl rfl (fun w h => TRep.data h))) (.cons (.of .d) .nil)) rfl) rfl ?_
          refine AL.p (by first | exact g_not rfl | exact g_neg rfl (by first | exact wrap_i64 (by omega) | exact wrap_u8 (by omega) | exact wrap_u64 (by omega) | rfl)) rfl ?_
          refine AL.p (by first | exact mv1 rfl | exact mv2 rfl | exact mv3 rfl | exact mv4 rfl | exact mv5 rfl | exact mv6 rfl | exact mv7 rfl | exact mv8 rfl | exact mv9 rfl) rfl ?_
          first | refine AL.caseG rfl rfl (fun h4 => ?_) (fun h4 => ?_) | refine AL.caseGN rfl rfl (fun h4 => ?_) (fun h4 => ?_) | refine AL.caseGB rfl rfl (fun h4 => ?_) (fun h4 => ?_) | refine AL.caseGNB rfl rfl (fun h4 => ?_) (fun h4 => ?_)
          · refine AL.not rfl rfl rfl rfl rfl ?_
            refine AL.not rfl rfl rfl rfl rfl ?_
            refine AL.not rfl rfl rfl rfl rfl ?_
            refine AL.p (by first | exact g_pickT (r := .d _) rfl rfl | exact g_pickF (r := .d _) rfl rfl) rfl ?_
            refine AL.nil ?_
            refine th_n ?_
            refine AC.condT rfl ?_
            refine AC.seq ?_
            first | (exfalso; omega) | exact absurd h30 (by simp) | exact absurd h29 (by simp) | exact absurd h28 (by simp) | exact absurd h27 (by simp) | exact absurd h26 (by simp) | exact absurd h25 (by simp) | exact absurd h24 (by simp) | exact absurd h23 (by simp) | exact absurd h22 (by simp) | exact absurd h21 (by simp) | exact absurd h20 (by simp) | exact absurd h19 (by simp) | exact absurd h18 (by simp) | exact absurd h17 (by simp) | exact absurd h16 (by simp) | exact absurd h15 (by simp) | exact absurd h14 (by simp) | exact absurd h13 (by simp) | exact absurd h12 (by simp) | exact absurd h11 (by simp) | exact absurd h10 (by simp) | exact absurd h9 (by simp) | exact absurd h8 (by simp) | exact absurd h7 (by simp) | exact absurd h6 (by simp) | exact absurd h5 (by simp) | exact absurd h4 (by simp) | exact absurd h3 (by simp) | exact absurd h2 (by simp) | exact absurd h1 (by simp) | exact absurd h0 (by simp)
          · refine AL.yes rfl rfl rfl ?_
            refine AL.p (by first | exact mv1 rfl | exact mv2 rfl | exact mv3 rfl | exact mv4 rfl | exact mv5 rfl | exact mv6 rfl | exact mv7 rfl | exact mv8 rfl | exact mv9 rfl) rfl ?_
            refine AL.yes rfl rfl rfl ?_
            refine AL.p (by first | exact mv1 rfl | exact mv2 rfl | exact mv3 rfl | exact mv4 rfl | exact mv5 rfl | exact mv6 rfl | exact mv7 rfl | exact mv8 rfl | exact mv9 rfl) rfl ?_
            refine AL.yes rfl rfl rfl ?_
            refine AL.p (by first | exact g_cmp rfl rfl rfl | exact g_scmp rfl rfl rfl | exact g_eqB rfl rfl rfl | exact g_neB rfl rfl rfl) rfl ?_
            refine AL.p (by first | exact g_pickT (r := .d _) rfl rfl | exact g_pickF (r := .d _) rfl rfl) rfl ?_
            refine AL.nil ?_
            refine th_n ?_
            first | refine AC.condD rfl (fun h5 => ?_) (fun h5 => ?_) | refine AC.condND rfl (fun h5 => ?_) (fun h5 => ?_) | refine AC.condB rfl (fun h5 => ?_) (fun h5 => ?_) | refine AC.condNB rfl (fun h5 => ?_) (fun h5 => ?_)
            · refine AC.seq ?_
              first | (exfalso; omega) | exact absurd h30 (by simp) | exact absurd h29 (by simp) | exact absurd h28 (by simp) | exact absurd h27 (by simp) | exact absurd h26 (by simp) | exact absurd h25 (by simp) | exact absurd h24 (by simp) | exact absurd h23 (by simp) | exact absurd h22 (by simp) | exact absurd h21 (by simp) | exact absurd h20 (by simp) | exact absurd h19 (by simp) | exact absurd h18 (by simp) | exact absurd h17 (by simp) | exact absurd h16 (by simp) | exact absurd h15 (by simp) | exact absurd h14 (by simp) | exact absurd h13 (by simp) | exact absurd h12 (by simp) | exact absurd h11 (by simp) | exact absurd h10 (by simp) | exact absurd h9 (by simp) | exact absurd h8 (by simp) | exact absurd h7 (by simp) | exact absurd h6 (by simp) | exact absurd h5 (by simp) | exact absurd h4 (by simp) | exact absurd h3 (by simp) | exact absurd h2 (by simp) | exact absurd h1 (by simp) | exact absurd h0 (by simp)
            · refine AC.skip ?_
              refine th_n ?_
              refine AC.seq ?_
              refine AC.seq ?_
              refine AC.drawn' mixed_ok [[], [], [1], [0,1,2], [0,1,2,3]] (by decide) ?_
              refine DF.op 0 [] 5 rfl rfl rfl (.free rfl (NOp.of (by first | exact g_load_ref rfl rfl rfl | exact g_load_ptr rfl rfl rfl rfl rfl | exact g_load_refN rfl rfl rfl rfl | exact g_load_ptrN rfl rfl rfl rfl rfl | exact g_load_arr1 rfl rfl rfl rfl (by assumption) | exact g_load_arr rfl rfl rfl rfl (by first | rfl | omega) (by first | assumption | rfl) (by first | assumption | rfl)))) rfl ?_
              refine DF.op 1 [] 5 rfl rfl rfl (.free rfl (NOp.of (by first | exact g_load_ref rfl rfl rfl | exact g_load_ptr rfl rfl rfl rfl rfl | exact g_load_refN rfl rfl rfl rfl | exact g_load_ptrN rfl rfl rfl rfl rfl | exact g_load_arr1 rfl rfl rfl rfl (by assumption) | exact g_load_arr rfl rfl rfl rfl (by first | rfl | omega) (by first | assumption | rfl) (by first | assumption | rfl)))) rfl ?_
              refine DF.op 2 [1] 5 rfl rfl rfl (.free rfl (by exact h_pure en_toNet rfl rfl (by repeat (first | exact rfl | exact DLead.same | exact DLead.nil | refine ⟨_, _, rfl, ?_, ?_⟩ | refine ⟨_, rfl, ?_⟩ | exact ⟨_, rfl, rfl⟩)) hcToNet rfl)) rfl ?_
              refine DF.op 3 [0,1,2] 5 rfl rfl rfl (.free rfl (by exact h_borrow [102] en_eqNet rfl rfl hcEqNet (.cons (.aggs (ds := [dI N.places, vTs N.ts]) (.cons (.pred (id := 102) rfl rfl (fun w h => TL.data h 0 rfl rfl)) (.cons (.pred (id := 102) rfl rfl (fun w h => TL.data h 1 rfl rfl)) .nil))) (.cons (.agg (ds := [dI N.places, vTs N.ts])) .nil)) rfl)) rfl ?_
              refine DF.op 4 [0,1,2,3] 5 rfl rfl rfl (.free rfl (NOp.of (by first | exact g_not rfl | exact g_neg rfl (by first | exact wrap_i64 (by omega) | exact wrap_u8 (by omega) | exact wrap_u64 (by omega) | rfl)))) rfl ?_
              refine DF.fin (ps := [(0, 1), (0, 2), (1, 0), (2, 0)]) 5 rfl (by decide +kernel) (by decide +kernel) (by rfl) ?_
              refine th_n ?_
              first | refine AC.condD rfl (fun h6 => ?_) (fun h6 => ?_) | refine AC.condND rfl (fun h6 => ?_) (fun h6 => ?_) | refine AC.condB rfl (fun h6 => ?_) (fun h6 => ?_) | refine AC.condNB rfl (fun h6 => ?_) (fun h6 => ?_)
              · refine AC.seq ?_
                first | (exfalso; omega) | exact absurd h30 (by simp) | exact absurd h29 (by simp) | exact absurd h28 (by simp) | exact absurd h27 (by simp) | exact absurd h26 (by simp) | exact absurd h25 (by simp) | exact absurd h24 (by simp) | exact absurd h23 (by simp) | exact absurd h22 (by simp) | exact absurd h21 (by simp) | exact absurd h20 (by simp) | exact absurd h19 (by simp) | exact absurd h18 (by simp) | exact absurd h17 (by simp) | exact absurd h16 (by simp) | exact absurd h15 (by simp) | exact absurd h14 (by simp) | exact absurd h13 (by simp) | exact absurd h12 (by simp) | exact absurd h11 (by simp) | exact absurd h10 (by simp) | exact absurd h9 (by simp) | exact absurd h8 (by simp) | exact absurd h7 (by simp) | exact absurd h6 (by simp) | exact absurd h5 (by simp) | exact absurd h4 (by simp) | exact absurd h3 (by simp) | exact absurd h2 (by simp) | exact absurd h1 (by simp) | exact absurd h0 (by simp)
              · refine AC.skip ?_
                refine th_n ?_
                refine AC.seq ?_
                refine AC.seq ?_
                refine AC.drawn' mixed_ok [[], [], [1], [0,1,2], [0,1,2,3]] (by decide) ?_
                refine DF.op 0 [] 5 rfl rfl rfl (.free rfl (NOp.of (by first | exact g_load_ref rfl rfl rfl | exact g_load_ptr rfl rfl rfl rfl rfl | exact g_load_refN rfl rfl rfl rfl | exact g_load_ptrN rfl rfl rfl rfl rfl | exact g_load_arr1 rfl rfl rfl rfl (by assumption) | exact g_load_arr rfl rfl rfl rfl (by first | rfl | omega) (by first | assumption | rfl) (by first | assumption | rfl)))) rfl ?_
                refine DF.op 1 [] 5 rfl rfl rfl (.free rfl (NOp.of (by first | exact g_load_ref rfl rfl rfl | exact g_load_ptr rfl rfl rfl rfl rfl | exact g_load_refN rfl rfl rfl rfl | exact g_load_ptrN rfl rfl rfl rfl rfl | exact g_load_arr1 rfl rfl rfl rfl (by assumption) | exact g_load_arr rfl rfl rfl rfl (by first | rfl | omega) (by first | assumption | rfl) (by first | assumption | rfl)))) rfl ?_
                refine DF.op 2 [1] 5 rfl rfl rfl (.free rfl (by exact h_pure en_toUnf rfl rfl (by repeat (first | exact rfl | exact DLead.same | exact DLead.nil | refine ⟨_, _, rfl, ?_, ?_⟩ | refine ⟨_, rfl, ?_⟩ | exact ⟨_, rfl, rfl⟩)) hcToUnf rfl)) rfl ?_
                refine DF.op 3 [0,1,2] 5 rfl rfl rfl (.free rfl (by exact h_borrow [103] en_eqUnf rfl rfl hcEqUnf (.cons (.aggs (ds := [vCs u.cs, vEs u.es]) (.cons (.pred (id := 103) rfl rfl (fun w h => TL.data h 0 rfl rfl)) (.cons (.pred (id := 103) rfl rfl (fun w h => TL.data h 1 rfl rfl)) .nil))) (.cons (.agg (ds := [vCs u.cs, vEs u.es])) .nil)) rfl)) rfl ?_
                refine DF.op 4 [0,1,2,3] 5 rfl rfl rfl (.free rfl (NOp.of (by first | exact g_not rfl | exact g_neg rfl (by first | exact wrap_i64 (by omega) | exact wrap_u8 (by omega) | exact wrap_u64 (by omega) | rfl)))) rfl ?_
                refine DF.fin (ps := [(0, 1), (0, 2), (1, 0), (2, 0)]) 5 rfl (by decide +kernel) (by decide +kernel) (by rfl) ?_
                refine th_n ?_
                first | refine AC.condD rfl (fun h7 => ?_) (fun h7 => ?_) | refine AC.condND rfl (fun h7 => ?_) (fun h7 => ?_) | refine AC.condB rfl (fun h7 => ?_) (fun h7 => ?_) | refine AC.condNB rfl (fun h7 => ?_) (fun h7 => ?_)
                · refine AC.seq ?_
                  first | (exfalso; omega) | exact absurd h30 (by simp) | exact absurd h29 (by simp) | exact absurd h28 (by simp) | exact absurd h27 (by simp) | exact absurd h26 (by simp) | exact absurd h25 (by simp) | exact absurd h24 (by simp) | exact absurd h23 (by simp) | exact absurd h22 (by simp) | exact absurd h21 (by simp) | exact absurd h20 (by simp) | exact absurd h19 (by simp) | exact absurd h18 (by simp) | exact absurd h17 (by simp) | exact absurd h16 (by simp) | exact absurd h15 (by simp) | exact absurd h14 (by simp) | exact absurd h13 (by simp) | exact absurd h12 (by simp) | exact absurd h11 (by simp) | exact absurd h10 (by simp) | exact absurd h9 (by simp) | exact absurd h8 (by simp) | exact absurd h7 (by simp) | exact absurd h6 (by simp) | exact absurd h5 (by simp) | exact absurd h4 (by simp) | exact absurd h3 (by simp) | exact absurd h2 (by simp) | exact absurd h1 (by simp) | exact absurd h0 (by simp)
                · refine AC.skip ?_
                  refine th_n ?_
                  refine AC.seq ?_
                  refine AC.seq ?_
                  refine AC.region ?_
                  refine AL.p (by first | exact mv1 rfl | exact mv2 rfl | exact mv3 rfl | exact mv4 rfl | exact mv5 rfl | exact mv6 rfl | exact mv7 rfl | exact mv8 rfl | exact mv9 rfl) rfl ?_
                  refine AL.p (by first | exact mv1 rfl | exact mv2 rfl | exact mv3 rfl | exact mv4 rfl | exact mv5 rfl | exact mv6 rfl | exact mv7 rfl | exact mv8 rfl | exact mv9 rfl) rfl ?_
                  refine AL.q (by exact h_pure en_toIntS rfl rfl (by repeat (first | exact rfl | exact DLead.same | exact DLead.nil | refine ⟨_, _, rfl, ?_, ?_⟩ | refine ⟨_, rfl, ?_⟩ | exact ⟨_, rfl, rfl⟩)) hcToIntS rfl) rfl ?_
                  refine AL.q (by exact h_borrow [105] en_eqIntS rfl rfl hcEqL (.cons (.of (.pred (id := 105) rfl rfl (fun w h => TRep.data h))) (.cons (.of .d) .nil)) rfl) rfl ?_
                  refine AL.p (by first | exact g_not rfl | exact g_neg rfl (by first | exact wrap_i64 (by omega) | exact wrap_u8 (by omega) | exact wrap_u64 (by omega) | rfl)) rfl ?_
                  refine AL.nil ?_
                  refine th_n ?_
                  first | refine AC.condD rfl (fun h8 => ?_) (fun h8 => ?_) | refine AC.condND rfl (fun h8 => ?_) (fun h8 => ?_) | refine AC.condB rfl (fun h8 => ?_) (fun h8 => ?_) | refine AC.condNB rfl (fun h8 => ?_) (fun h8 => ?_)
                  · refine AC.seq ?_
                    first | (exfalso; omega) | exact absurd h30 (by simp) | exact absurd h29 (by simp) | exact absurd h28 (by simp) | exact absurd h27 (by simp) | exact absurd h26 (by simp) | exact absurd h25 (by simp) | exact absurd h24 (by simp) | exact absurd h23 (by simp) | exact absurd h22 (by simp) | exact absurd h21 (by simp) | exact absurd h20 (by simp) | exact absurd h19 (by simp) | exact absurd h18 (by simp) | exact absurd h17 (by simp) | exact absurd h16 (by simp) | exact absurd h15 (by simp) | exact absurd h14 (by simp) | exact absurd h13 (by simp) | exact absurd h12 (by simp) | exact absurd h11 (by simp) | exact absurd h10 (by simp) | exact absurd h9 (by simp) | exact absurd h8 (by simp) | exact absurd h7 (by simp) | exact absurd h6 (by simp) | exact absurd h5 (by simp) | exact absurd h4 (by simp) | exact absurd h3 (by simp) | exact absurd h2 (by simp) | exact absurd h1 (by simp) | exact absurd h0 (by simp)
                  · refine AC.skip ?_
                    refine th_n ?_
                    refine AC.seq ?_
                    refine AC.region ?_
                    refine AL.p (by first | exact as1 rfl | exact as2 rfl | exact as3 rfl | exact as4 rfl | exact as5 rfl | exact as6 rfl | exact as7 rfl | exact as8 rfl | exact as9 rfl) rfl ?_
                    refine AL.nil ?_
                    refine th_n ?_
                    refine AC.seq ?_
                    refine AC.region ?_
                    refine AL.p (by first | exact g_load_ref rfl rfl rfl | exact g_load_ptr rfl rfl rfl rfl rfl | exact g_load_refN rfl rfl rfl rfl | exact g_load_ptrN rfl rfl rfl rfl rfl | exact g_load_arr1 rfl rfl rfl rfl (by assumption) | exact g_load_arr rfl rfl rfl rfl (by first | rfl | omega) (by first | assumption | rfl) (by first | assumption | rfl)) rfl ?_
                    refine AL.p (by first | exact mv1 rfl | exact mv2 rfl | exact mv3 rfl | exact mv4 rfl | exact mv5 rfl | exact mv6 rfl | exact mv7 rfl | exact mv8 rfl | exact mv9 rfl) rfl ?_
                    refine AL.q (by exact h_fun (cs := [102]) en_markNet rfl rfl (by repeat (first | exact rfl | exact DLead.same | exact DLead.nil | refine ⟨_, _, rfl, ?_, ?_⟩ | refine ⟨_, rfl, ?_⟩)) (by repeat (first | exact True.intro | refine And.intro ?_ ?_ | exact DLead.same | exact DLead.eqI (by omega) | exact DLead.nil | exact rfl | refine ⟨_, _, rfl, rfl, ?_⟩ | refine ⟨_, rfl, ?_⟩ | refine ⟨_, _, rfl, ?_, ?_⟩)) (hcN x1 x2 SA) rfl rfl rfl rfl) rfl ?_
                    refine AL.p (by first | exact as1 rfl | exact as2 rfl | exact as3 rfl | exact as4 rfl | exact as5 rfl | exact as6 rfl | exact as7 rfl | exact as8 rfl | exact as9 rfl) rfl ?_
                    refine AL.nil ?_
                    refine th_n ?_
                    refine AC.seq ?_
                    refine AC.region ?_
                    refine AL.p (by first | exact g_load_ref rfl rfl rfl | exact g_load_ptr rfl rfl rfl rfl rfl | exact g_load_refN rfl rfl rfl rfl | exact g_load_ptrN rfl rfl rfl rfl rfl | exact g_load_arr1 rfl rfl rfl rfl (by assumption) | exact g_load_arr rfl rfl rfl rfl (by first | rfl | omega) (by first | assumption | rfl) (by first | assumption | rfl)) rfl ?_
                    refine AL.p (by first | exact mv1 rfl | exact mv2 rfl | exact mv3 rfl | exact mv4 rfl | exact mv5 rfl | exact mv6 rfl | exact mv7 rfl | exact mv8 rfl | exact mv9 rfl) rfl ?_
                    refine AL.q (by exact h_fun (cs := [103]) en_markUnf rfl rfl (by repeat (first | exact rfl | exact DLead.same | exact DLead.nil | refine ⟨_, _, rfl, ?_, ?_⟩ | refine ⟨_, rfl, ?_⟩)) (by repeat (first | exact True.intro | refine And.intro ?_ ?_ | exact DLead.same | exact DLead.eqI (by omega) | exact DLead.nil | exact rfl | refine ⟨_, _, rfl, rfl, ?_⟩ | refine ⟨_, rfl, ?_⟩ | refine ⟨_, _, rfl, ?_, ?_⟩)) (hcU y1 y2 SB) rfl rfl rfl rfl) rfl ?_
                    refine AL.p (by first | exact as1 rfl | exact as2 rfl | exact as3 rfl | exact as4 rfl | exact as5 rfl | exact as6 rfl | exact as7 rfl | exact as8 rfl | exact as9 rfl) rfl ?_
                    refine AL.nil ?_
                    refine th_n ?_
                    refine AC.seq ?_
                    refine AC.region ?_
                    refine AL.p (by first | exact mv1 rfl | exact mv2 rfl | exact mv3 rfl | exact mv4 rfl | exact mv5 rfl | exact mv6 rfl | exact mv7 rfl | exact mv8 rfl | exact mv9 rfl) rfl ?_
                    refine AL.p (by first | exact mv1 rfl | exact mv2 rfl | exact mv3 rfl | exact mv4 rfl | exact mv5 rfl | exact mv6 rfl | exact mv7 rfl | exact mv8 rfl | exact mv9 rfl) rfl ?_
                    refine AL.q (by exact h_fun (cs := [105]) en_markIntS rfl rfl (by repeat (first | exact rfl | exact DLead.same | exact DLead.nil | refine ⟨_, _, rfl, ?_, ?_⟩ | refine ⟨_, rfl, ?_⟩)) (by repeat (first | exact True.intro | refine And.intro ?_ ?_ | exact DLead.same | exact DLead.eqI (by omega) | exact DLead.nil | exact rfl | refine ⟨_, _, rfl, rfl, ?_⟩ | refine ⟨_, rfl, ?_⟩ | refine ⟨_, _, rfl, ?_, ?_⟩)) (hcJ _ (by omega) z1 SJ) rfl rfl rfl rfl) rfl ?_
                    refine AL.p (by first | exact as1 rfl | exact as2 rfl | exact as3 rfl | exact as4 rfl | exact as5 rfl | exact as6 rfl | exact as7 rfl | exact as8 rfl | exact as9 rfl) rfl ?_
                    refine AL.nil ?_
                    refine th_n ?_
                    refine AC.seq ?_
                    refine AC.seq ?_
                    refine AC.region ?_
                    refine AL.p (by first | exact mv1 rfl | exact mv2 rfl | exact mv3 rfl | exact mv4 rfl | exact mv5 rfl | exact mv6 rfl | exact mv7 rfl | exact mv8 rfl | exact mv9 rfl) rfl ?_
                    refine AL.p (by first | exact g_cmp rfl rfl rfl | exact g_scmp rfl rfl rfl | exact g_eqB rfl rfl rfl | exact g_neB rfl rfl rfl) rfl ?_
                    refine AL.p (by first | exact mv1 rfl | exact mv2 rfl | exact mv3 rfl | exact mv4 rfl | exact mv5 rfl | exact mv6 rfl | exact mv7 rfl | exact mv8 rfl | exact mv9 rfl) rfl ?_
                    first | refine AL.caseG rfl rfl (fun h9 => ?_) (fun h9 => ?_) | refine AL.caseGN rfl rfl (fun h9 => ?_) (fun h9 => ?_) | refine AL.caseGB rfl rfl (fun h9 => ?_) (fun h9 => ?_) | refine AL.caseGNB rfl rfl (fun h9 => ?_) (fun h9 => ?_)
                    · refine AL.not rfl rfl rfl rfl rfl ?_
                      refine AL.not rfl rfl rfl rfl rfl ?_
                      refine AL.not rfl rfl rfl rfl rfl ?_
                      refine AL.not rfl rfl rfl rfl rfl ?_
                      refine AL.p (by first | exact g_pickT (r := .d _) rfl rfl | exact g_pickF (r := .d _) rfl rfl) rfl ?_
                      refine AL.p (by first | exact mv1 rfl | exact mv2 rfl | exact mv3 rfl | exact mv4 rfl | exact mv5 rfl | exact mv6 rfl | exact mv7 rfl | exact mv8 rfl | exact mv9 rfl) rfl ?_
                      refine AL.not rfl rfl rfl rfl rfl ?_
                      refine AL.not rfl rfl rfl rfl rfl ?_
                      refine AL.not rfl rfl rfl rfl rfl ?_
                      refine AL.p (by first | exact g_pickT (r := .d _) rfl rfl | exact g_pickF (r := .d _) rfl rfl) rfl ?_
                      refine AL.nil ?_
                      refine th_n ?_
                      refine AC.condT rfl ?_
                      refine AC.seq ?_
                      first | (exfalso; omega) | exact absurd h30 (by simp) | exact absurd h29 (by simp) | exact absurd h28 (by simp) | exact absurd h27 (by simp) | exact absurd h26 (by simp) | exact absurd h25 (by simp) | exact absurd h24 (by simp) | exact absurd h23 (by simp) | exact absurd h22 (by simp) | exact absurd h21 (by simp) | exact absurd h20 (by simp) | exact absurd h19 (by simp) | exact absurd h18 (by simp) | exact absurd h17 (by simp) | exact absurd h16 (by simp) | exact absurd h15 (by simp) | exact absurd h14 (by simp) | exact absurd h13 (by simp) | exact absurd h12 (by simp) | exact absurd h11 (by simp) | exact absurd h10 (by simp) | exact absurd h9 (by simp) | exact absurd h8 (by simp) | exact absurd h7 (by simp) | exact absurd h6 (by simp) | exact absurd h5 (by simp) | exact absurd h4 (by simp) | exact absurd h3 (by simp) | exact absurd h2 (by simp) | exact absurd h1 (by simp) | exact absurd h0 (by simp)
                    · refine AL.yes rfl rfl rfl ?_
                      refine AL.p (by first | exact mv1 rfl | exact mv2 rfl | exact mv3 rfl | exact mv4 rfl | exact mv5 rfl | exact mv6 rfl | exact mv7 rfl | exact mv8 rfl | exact mv9 rfl) rfl ?_
                      refine AL.yes rfl rfl rfl ?_
                      refine AL.p (by first | exact mv1 rfl | exact mv2 rfl | exact mv3 rfl | exact mv4 rfl | exact mv5 rfl | exact mv6 rfl | exact mv7 rfl | exact mv8 rfl | exact mv9 rfl) rfl ?_
                      refine AL.yes rfl rfl rfl ?_
                      refine AL.q (by exact h_borrow [104] en_eqIntS rfl rfl hcEq0 (.cons (.of (.pred (id := 104) rfl rfl (fun w h => TRep.data h))) (.cons (.of .d) .nil)) rfl) rfl ?_
                      refine AL.yes rfl rfl rfl ?_
                      refine AL.p (by first | exact g_not rfl | exact g_neg rfl (by first | exact wrap_i64 (by omega) | exact wrap_u8 (by omega) | exact wrap_u64 (by omega) | rfl)) rfl ?_
                      refine AL.p (by first | exact g_pickT (r := .d _) rfl rfl | exact g_pickF (r := .d _) rfl rfl) rfl ?_
                      refine AL.p (by first | exact mv1 rfl | exact mv2 rfl | exact mv3 rfl | exact mv4 rfl | exact mv5 rfl | exact mv6 rfl | exact mv7 rfl | exact mv8 rfl | exact mv9 rfl) rfl ?_
                      first | refine AL.caseG rfl rfl (fun h10 => ?_) (fun h10 => ?_) | refine AL.caseGN rfl rfl (fun h10 => ?_) (fun h10 => ?_) | refine AL.caseGB rfl rfl (fun h10 => ?_) (fun h10 => ?_) | refine AL.caseGNB rfl rfl (fun h10 => ?_) (fun h10 => ?_)
                      · refine AL.not rfl rfl rfl rfl rfl ?_
                        refine AL.not rfl rfl rfl rfl rfl ?_
                        refine AL.not rfl rfl rfl rfl rfl ?_
                        refine AL.p (by first | exact g_pickT (r := .d _) rfl rfl | exact g_pickF (r := .d _) rfl rfl) rfl ?_
                        refine AL.nil ?_
                        refine th_n ?_
                        refine AC.condT rfl ?_
                        refine AC.seq ?_
                        first | (exfalso; omega) | exact absurd h30 (by simp) | exact absurd h29 (by simp) | exact absurd h28 (by simp) | exact absurd h27 (by simp) | exact absurd h26 (by simp) | exact absurd h25 (by simp) | exact absurd h24 (by simp) | exact absurd h23 (by simp) | exact absurd h22 (by simp) | exact absurd h21 (by simp) | exact absurd h20 (by simp) | exact absurd h19 (by simp) | exact absurd h18 (by simp) | exact absurd h17 (by simp) | exact absurd h16 (by simp) | exact absurd h15 (by simp) | exact absurd h14 (by simp) | exact absurd h13 (by simp) | exact absurd h12 (by simp) | exact absurd h11 (by simp) | exact absurd h10 (by simp) | exact absurd h9 (by simp) | exact absurd h8 (by simp) | exact absurd h7 (by simp) | exact absurd h6 (by simp) | exact absurd h5 (by simp) | exact absurd h4 (by simp) | exact absurd h3 (by simp) | exact absurd h2 (by simp) | exact absurd h1 (by simp) | exact absurd h0 (by simp)
                      · refine AL.yes rfl rfl rfl ?_
                        refine AL.p (by first | exact mv1 rfl | exact mv2 rfl | exact mv3 rfl | exact mv4 rfl | exact mv5 rfl | exact mv6 rfl | exact mv7 rfl | exact mv8 rfl | exact mv9 rfl) rfl ?_
                        refine AL.yes rfl rfl rfl ?_
                        refine AL.p (by first | exact mv1 rfl | exact mv2 rfl | exact mv3 rfl | exact mv4 rfl | exact mv5 rfl | exact mv6 rfl | exact mv7 rfl | exact mv8 rfl | exact mv9 rfl) rfl ?_
                        refine AL.yes rfl rfl rfl ?_
                        refine AL.p (by first | exact g_cmp rfl rfl rfl | exact g_scmp rfl rfl rfl | exact g_eqB rfl rfl rfl | exact g_neB rfl rfl rfl) rfl ?_
                        refine AL.p (by first | exact g_pickT (r := .d _) rfl rfl | exact g_pickF (r := .d _) rfl rfl) rfl ?_
                        refine AL.nil ?_
                        refine th_n ?_
                        first | refine AC.condD rfl (fun h11 => ?_) (fun h11 => ?_) | refine AC.condND rfl (fun h11 => ?_) (fun h11 => ?_) | refine AC.condB rfl (fun h11 => ?_) (fun h11 => ?_) | refine AC.condNB rfl (fun h11 => ?_) (fun h11 => ?_)
                        · refine AC.seq ?_
                          first | (exfalso; omega) | exact absurd h30 (by simp) | exact absurd h29 (by simp) | exact absurd h28 (by simp) | exact absurd h27 (by simp) | exact absurd h26 (by simp) | exact absurd h25 (by simp) | exact absurd h24 (by simp) | exact absurd h23 (by simp) | exact absurd h22 (by simp) | exact absurd h21 (by simp) | exact absurd h20 (by simp) | exact absurd h19 (by simp) | exact absurd h18 (by simp) | exact absurd h17 (by simp) | exact absurd h16 (by simp) | exact absurd h15 (by simp) | exact absurd h14 (by simp) | exact absurd h13 (by simp) | exact absurd h12 (by simp) | exact absurd h11 (by simp) | exact absurd h10 (by simp) | exact absurd h9 (by simp) | exact absurd h8 (by simp) | exact absurd h7 (by simp) | exact absurd h6 (by simp) | exact absurd h5 (by simp) | exact absurd h4 (by simp) | exact absurd h3 (by simp) | exact absurd h2 (by simp) | exact absurd h1 (by simp) | exact absurd h0 (by simp)
                        · refine AC.skip ?_
                          refine th_n ?_
                          refine AC.seq ?_
                          refine AC.region ?_
                          refine AL.p (by first | exact as1 rfl | exact as2 rfl | exact as3 rfl | exact as4 rfl | exact as5 rfl | exact as6 rfl | exact as7 rfl | exact as8 rfl | exact as9 rfl) rfl ?_
                          refine AL.nil ?_
                          refine th_n ?_
                          refine AC.seq ?_
                          refine AC.region ?_
                          refine AL.p (by first | exact mv1 rfl | exact mv2 rfl | exact mv3 rfl | exact mv4 rfl | exact mv5 rfl | exact mv6 rfl | exact mv7 rfl | exact mv8 rfl | exact mv9 rfl) rfl ?_
                          refine AL.p (by first | exact mv1 rfl | exact mv2 rfl | exact mv3 rfl | exact mv4 rfl | exact mv5 rfl | exact mv6 rfl | exact mv7 rfl | exact mv8 rfl | exact mv9 rfl) rfl ?_
                          refine AL.q (by exact h_fun (cs := [104]) en_markIntS rfl rfl (by repeat (first | exact rfl | exact DLead.same | exact DLead.nil | refine ⟨_, _, rfl, ?_, ?_⟩ | refine ⟨_, rfl, ?_⟩)) (by repeat (first | exact True.intro | refine And.intro ?_ ?_ | exact DLead.same | exact DLead.eqI (by omega) | exact DLead.nil | exact rfl | refine ⟨_, _, rfl, rfl, ?_⟩ | refine ⟨_, rfl, ?_⟩ | refine ⟨_, _, rfl, ?_, ?_⟩)) (hcI v SG) rfl rfl rfl rfl) rfl ?_
                          refine AL.p (by first | exact as1 rfl | exact as2 rfl | exact as3 rfl | exact as4 rfl | exact as5 rfl | exact as6 rfl | exact as7 rfl | exact as8 rfl | exact as9 rfl) rfl ?_
                          refine AL.nil ?_
                          refine th_n ?_
                          refine AC.seq ?_
                          refine AC.region ?_
                          refine AL.p (by first | exact as1 rfl | exact as2 rfl | exact as3 rfl | exact as4 rfl | exact as5 rfl | exact as6 rfl | exact as7 rfl | exact as8 rfl | exact as9 rfl) rfl ?_
                          refine AL.nil ?_
                          refine th_n ?_
                          refine AC.seq ?_
                          refine AC.region ?_
                          refine AL.p (by first | exact mv1 rfl | exact mv2 rfl | exact mv3 rfl | exact mv4 rfl | exact mv5 rfl | exact mv6 rfl | exact mv7 rfl | exact mv8 rfl | exact mv9 rfl) rfl ?_
                          refine AL.p (by first | exact mv1 rfl | exact mv2 rfl | exact mv3 rfl | exact mv4 rfl | exact mv5 rfl | exact mv6 rfl | exact mv7 rfl | exact mv8 rfl | exact mv9 rfl) rfl ?_
                          refine AL.q (by exact h_borrow [104] en_heldIntS rfl rfl hcH (.cons (.of (.pred (id := 104) rfl rfl (fun w h => TRep.data h))) (.cons (.of .d) .nil)) rfl) rfl ?_
                          refine AL.p (by first | exact as1 rfl | exact as2 rfl | exact as3 rfl | exact as4 rfl | exact as5 rfl | exact as6 rfl | exact as7 rfl | exact as8 rfl | exact as9 rfl) rfl ?_
                          refine AL.nil ?_
                          refine th_n ?_
                          refine AC.seq ?_
                          refine AC.seq ?_
                          refine AC.region ?_
                          refine AL.p (by first | exact mv1 rfl | exact mv2 rfl | exact mv3 rfl | exact mv4 rfl | exact mv5 rfl | exact mv6 rfl | exact mv7 rfl | exact mv8 rfl | exact mv9 rfl) rfl ?_
                          refine AL.p (by first | exact g_cmp rfl rfl rfl | exact g_scmp rfl rfl rfl | exact g_eqB rfl rfl rfl | exact g_neB rfl rfl rfl) rfl ?_
                          refine AL.nil ?_
                          refine th_n ?_
                          first | refine AC.condD rfl (fun h12 => ?_) (fun h12 => ?_) | refine AC.condND rfl (fun h12 => ?_) (fun h12 => ?_) | refine AC.condB rfl (fun h12 => ?_) (fun h12 => ?_) | refine AC.condNB rfl (fun h12 => ?_) (fun h12 => ?_)
                          · refine AC.seq ?_
                            first | (exfalso; omega) | exact absurd h30 (by simp) | exact absurd h29 (by simp) | exact absurd h28 (by simp) | exact absurd h27 (by simp) | exact absurd h26 (by simp) | exact absurd h25 (by simp) | exact absurd h24 (by simp) | exact absurd h23 (by simp) | exact absurd h22 (by simp) | exact absurd h21 (by simp) | exact absurd h20 (by simp) | exact absurd h19 (by simp) | exact absurd h18 (by simp) | exact absurd h17 (by simp) | exact absurd h16 (by simp) | exact absurd h15 (by simp) | exact absurd h14 (by simp) | exact absurd h13 (by simp) | exact absurd h12 (by simp) | exact absurd h11 (by simp) | exact absurd h10 (by simp) | exact absurd h9 (by simp) | exact absurd h8 (by simp) | exact absurd h7 (by simp) | exact absurd h6 (by simp) | exact absurd h5 (by simp) | exact absurd h4 (by simp) | exact absurd h3 (by simp) | exact absurd h2 (by simp) | exact absurd h1 (by simp) | exact absurd h0 (by simp)
                          · refine AC.skip ?_
                            refine th_n ?_
                            refine AC.seq ?_
                            refine AC.seq ?_
                            refine AC.region ?_
                            refine AL.p (by first | exact mv1 rfl | exact mv2 rfl | exact mv3 rfl | exact mv4 rfl | exact mv5 rfl | exact mv6 rfl | exact mv7 rfl | exact mv8 rfl | exact mv9 rfl) rfl ?_
                            refine AL.p (by first | exact mv1 rfl | exact mv2 rfl | exact mv3 rfl | exact mv4 rfl | exact mv5 rfl | exact mv6 rfl | exact mv7 rfl | exact mv8 rfl | exact mv9 rfl) rfl ?_
                            refine AL.p (by first | exact g_cmp rfl rfl rfl | exact g_scmp rfl rfl rfl | exact g_eqB rfl rfl rfl | exact g_neB rfl rfl rfl) rfl ?_
                            refine AL.nil ?_
                            refine th_n ?_
                            first | refine AC.condD rfl (fun h13 => ?_) (fun h13 => ?_) | refine AC.condND rfl (fun h13 => ?_) (fun h13 => ?_) | refine AC.condB rfl (fun h13 => ?_) (fun h13 => ?_) | refine AC.condNB rfl (fun h13 => ?_) (fun h13 => ?_)
                            · refine AC.seq ?_
                              first | (exfalso; omega) | exact absurd h30 (by simp) | exact absurd h29 (by simp) | exact absurd h28 (by simp) | exact absurd h27 (by simp) | exact absurd h26 (by simp) | exact absurd h25 (by simp) | exact absurd h24 (by simp) | exact absurd h23 (by simp) | exact absurd h22 (by simp) | exact absurd h21 (by simp) | exact absurd h20 (by simp) | exact absurd h19 (by simp) | exact absurd h18 (by simp) | exact absurd h17 (by simp) | exact absurd h16 (by simp) | exact absurd h15 (by simp) | exact absurd h14 (by simp) | exact absurd h13 (by simp) | exact absurd h12 (by simp) | exact absurd h11 (by simp) | exact absurd h10 (by simp) | exact absurd h9 (by simp) | exact absurd h8 (by simp) | exact absurd h7 (by simp) | exact absurd h6 (by simp) | exact absurd h5 (by simp) | exact absurd h4 (by simp) | exact absurd h3 (by simp) | exact absurd h2 (by simp) | exact absurd h1 (by simp) | exact absurd h0 (by simp)
                            · refine AC.skip ?_
                              refine th_n ?_
                              refine AC.seq ?_
                              refine AC.weak (t := ⟨148, 208, [(1, aS (bstr m)), (3, .d (vI l)), (4, .d (.ref [dI N.places, vLTs N.ts])), (6, .d (.ref [vLCs u.cs, vLEs u.es])), (10, .d (vI g0)), (11, aT g1), (15, .d (.val v)), (18, aI (1 + g0.length))], [(104, some (.pred SG fun w => TRep w SG (vI (seqI 1 g0.length)) v))]⟩) (Weak.ren _ [(104, 104)] hC rfl (by repeat (first | exact True.intro | refine And.intro ?_ ?_ | exact DLead.same | exact DLead.eqI (by omega) | exact DLead.nil | exact rfl | refine ⟨_, _, rfl, rfl, ?_⟩ | refine ⟨_, rfl, ?_⟩ | refine ⟨_, _, rfl, ?_, ?_⟩)) (by repeat (first | exact True.intro | refine And.intro ?_ ?_ | exact DLead.same | exact DLead.eqI (by omega) | exact DLead.nil | exact rfl | refine ⟨_, _, rfl, rfl, ?_⟩ | refine ⟨_, rfl, ?_⟩ | refine ⟨_, _, rfl, ?_, ?_⟩)) rfl rfl rfl) ?_
                              refine AC.drawn' mixed_ok [[], [0], [], [], [0,1,3], [], [0,1,3,4,5], [0,1,2,3,4,5,6], [0,1,2,3,4,5,6,7], [0,1,2,3,4,5,6,7,8], [0,1,2,3,4,5,6,7,8], [0,1,2,3,4,5,6,7,8,9], [0,1,2,3,4,5,6,7,8,9,10,11]] (by decide) ?_
                              refine DF.op 0 [] 13 rfl rfl rfl (.free rfl (NOp.of (by first | exact g_load_ref rfl rfl rfl | exact g_load_ptr rfl rfl rfl rfl rfl | exact g_load_refN rfl rfl rfl rfl | exact g_load_ptrN rfl rfl rfl rfl rfl | exact g_load_arr1 rfl rfl rfl rfl (by assumption) | exact g_load_arr rfl rfl rfl rfl (by first | rfl | omega) (by first | assumption | rfl) (by first | assumption | rfl)))) rfl ?_
                              refine DF.op 1 [0] 13 rfl rfl rfl (.free rfl (by exact h_pure en_toNet rfl rfl (by repeat (first | exact rfl | exact DLead.same | exact DLead.nil | refine ⟨_, _, rfl, ?_, ?_⟩ | refine ⟨_, rfl, ?_⟩ | exact ⟨_, rfl, rfl⟩)) hcToNet rfl)) rfl ?_
                              refine DF.op 2 [] 13 rfl rfl rfl (.free rfl (NOp.of (by first | exact mv1 rfl | exact mv2 rfl | exact mv3 rfl | exact mv4 rfl | exact mv5 rfl | exact mv6 rfl | exact mv7 rfl | exact mv8 rfl | exact mv9 rfl))) rfl ?_
                              refine DF.op 3 [] 13 rfl rfl rfl (.free rfl (NOp.of (by first | exact g_load_ref rfl rfl rfl | exact g_load_ptr rfl rfl rfl rfl rfl | exact g_load_refN rfl rfl rfl rfl | exact g_load_ptrN rfl rfl rfl rfl rfl | exact g_load_arr1 rfl rfl rfl rfl (by assumption) | exact g_load_arr rfl rfl rfl rfl (by first | rfl | omega) (by first | assumption | rfl) (by first | assumption | rfl)))) rfl ?_
                              refine DF.op 4 [0,1,3] 13 rfl rfl rfl (.free rfl (by exact h_pure en_toUnf rfl rfl (by repeat (first | exact rfl | exact DLead.same | exact DLead.nil | refine ⟨_, _, rfl, ?_, ?_⟩ | refine ⟨_, rfl, ?_⟩ | exact ⟨_, rfl, rfl⟩)) hcToUnf rfl)) rfl ?_
                              refine DF.op 5 [] 13 rfl rfl rfl (.free rfl (NOp.of (by first | exact mv1 rfl | exact mv2 rfl | exact mv3 rfl | exact mv4 rfl | exact mv5 rfl | exact mv6 rfl | exact mv7 rfl | exact mv8 rfl | exact mv9 rfl))) rfl ?_
                              refine DF.op 6 [0,1,3,4,5] 13 rfl rfl rfl (.free rfl (by exact h_pure en_toIntS rfl rfl (by repeat (first | exact rfl | exact DLead.same | exact DLead.nil | refine ⟨_, _, rfl, ?_, ?_⟩ | refine ⟨_, rfl, ?_⟩ | exact ⟨_, rfl, rfl⟩)) hcToIntS rfl)) rfl ?_
                              refine DF.op 7 [0,1,2,3,4,5,6] 13 rfl rfl rfl (.free rfl (by exact h_pure en_iCutC rfl rfl (by repeat (first | exact rfl | exact DLead.same | exact DLead.nil | refine ⟨_, _, rfl, ?_, ?_⟩ | refine ⟨_, rfl, ?_⟩ | exact ⟨_, rfl, rfl⟩)) hG2F rfl)) rfl ?_
                              refine DF.op 8 [0,1,2,3,4,5,6,7] 13 rfl rfl rfl (.free rfl (NOp.of (by first | exact mv1 rfl | exact mv2 rfl | exact mv3 rfl | exact mv4 rfl | exact mv5 rfl | exact mv6 rfl | exact mv7 rfl | exact mv8 rfl | exact mv9 rfl))) rfl ?_
                              refine DF.op 9 [0,1,2,3,4,5,6,7,8] 13 rfl rfl rfl (.free rfl (NOp.of (by first | exact g_extract (r := .d _) rfl rfl | exact g_extract (r := .own _ _) rfl rfl | exact g_extract (r := .agg _) rfl rfl | exact g_extract (r := .ptr _ _) rfl rfl | exact g_extract (r := .dead) rfl rfl))) rfl ?_
                              refine DF.op 10 [0,1,2,3,4,5,6,7,8] 13 rfl rfl rfl (.free rfl (NOp.of (by first | exact g_extract (r := .d _) rfl rfl | exact g_extract (r := .own _ _) rfl rfl | exact g_extract (r := .agg _) rfl rfl | exact g_extract (r := .ptr _ _) rfl rfl | exact g_extract (r := .dead) rfl rfl))) rfl ?_
                              refine DF.op 11 [0,1,2,3,4,5,6,7,8,9] 13 rfl rfl rfl (.free rfl (NOp.of (by first | exact as1 rfl | exact as2 rfl | exact as3 rfl | exact as4 rfl | exact as5 rfl | exact as6 rfl | exact as7 rfl | exact as8 rfl | exact as9 rfl))) rfl ?_
                              refine DF.op 12 [0,1,2,3,4,5,6,7,8,9,10,11] 13 rfl rfl rfl (.free rfl (NOp.of (by first | exact as1 rfl | exact as2 rfl | exact as3 rfl | exact as4 rfl | exact as5 rfl | exact as6 rfl | exact as7 rfl | exact as8 rfl | exact as9 rfl))) rfl ?_
                              refine DF.fin (ps := [(0, 2), (0, 3), (0, 5), (1, 2), (1, 3), (1, 5), (2, 0), (2, 1), (2, 3), (2, 4), (2, 5), (2, 6), (3, 0), (3, 1), (3, 2), (3, 5), (4, 2), (4, 5), (5, 0), (5, 1), (5, 2), (5, 3), (5, 4), (6, 2), (9, 10), (10, 9), (10, 11), (11, 10)]) 13 rfl (by decide +kernel) (by decide +kernel) (by rfl) ?_
                              refine th_n ?_
                              refine AC.seq ?_
                              refine AC.seq ?_
                              refine AC.region ?_
                              refine AL.p (by first | exact mv1 rfl | exact mv2 rfl | exact mv3 rfl | exact mv4 rfl | exact mv5 rfl | exact mv6 rfl | exact mv7 rfl | exact mv8 rfl | exact mv9 rfl) rfl ?_
                              refine AL.p (by first | exact mv1 rfl | exact mv2 rfl | exact mv3 rfl | exact mv4 rfl | exact mv5 rfl | exact mv6 rfl | exact mv7 rfl | exact mv8 rfl | exact mv9 rfl) rfl ?_
                              refine AL.q (by exact h_pure en_eqIntS rfl rfl (by repeat (first | exact rfl | exact DLead.same | exact DLead.nil | refine ⟨_, _, rfl, ?_, ?_⟩ | refine ⟨_, rfl, ?_⟩ | exact ⟨_, rfl, rfl⟩)) hcEq0 rfl) rfl ?_
                              refine AL.p (by first | exact g_not rfl | exact g_neg rfl (by first | exact wrap_i64 (by omega) | exact wrap_u8 (by omega) | exact wrap_u64 (by omega) | rfl)) rfl ?_
                              refine AL.p (by first | exact mv1 rfl | exact mv2 rfl | exact mv3 rfl | exact mv4 rfl | exact mv5 rfl | exact mv6 rfl | exact mv7 rfl | exact mv8 rfl | exact mv9 rfl) rfl ?_
                              first | refine AL.caseG rfl rfl (fun h14 => ?_) (fun h14 => ?_) | refine AL.caseGN rfl rfl (fun h14 => ?_) (fun h14 => ?_) | refine AL.caseGB rfl rfl (fun h14 => ?_) (fun h14 => ?_) | refine AL.caseGNB rfl rfl (fun h14 => ?_) (fun h14 => ?_)
                              · refine AL.not rfl rfl rfl rfl rfl ?_
                                refine AL.not rfl rfl rfl rfl rfl ?_
                                refine AL.not rfl rfl rfl rfl rfl ?_
                                refine AL.p (by first | exact g_pickT (r := .d _) rfl rfl | exact g_pickF (r := .d _) rfl rfl) rfl ?_
                                refine AL.nil ?_
                                refine th_n ?_
                                refine AC.condT rfl ?_
                                refine AC.seq ?_
                                first | (exfalso; omega) | exact absurd h30 (by simp) | exact absurd h29 (by simp) | exact absurd h28 (by simp) | exact absurd h27 (by simp) | exact absurd h26 (by simp) | exact absurd h25 (by simp) | exact absurd h24 (by simp) | exact absurd h23 (by simp) | exact absurd h22 (by simp) | exact absurd h21 (by simp) | exact absurd h20 (by simp) | exact absurd h19 (by simp) | exact absurd h18 (by simp) | exact absurd h17 (by simp) | exact absurd h16 (by simp) | exact absurd h15 (by simp) | exact absurd h14 (by simp) | exact absurd h13 (by simp) | exact absurd h12 (by simp) | exact absurd h11 (by simp) | exact absurd h10 (by simp) | exact absurd h9 (by simp) | exact absurd h8 (by simp) | exact absurd h7 (by simp) | exact absurd h6 (by simp) | exact absurd h5 (by simp) | exact absurd h4 (by simp) | exact absurd h3 (by simp) | exact absurd h2 (by simp) | exact absurd h1 (by simp) | exact absurd h0 (by simp)
                              · refine AL.yes rfl rfl rfl ?_
                                refine AL.p (by first | exact mv1 rfl | exact mv2 rfl | exact mv3 rfl | exact mv4 rfl | exact mv5 rfl | exact mv6 rfl | exact mv7 rfl | exact mv8 rfl | exact mv9 rfl) rfl ?_
                                refine AL.yes rfl rfl rfl ?_
                                refine AL.p (by first | exact mv1 rfl | exact mv2 rfl | exact mv3 rfl | exact mv4 rfl | exact mv5 rfl | exact mv6 rfl | exact mv7 rfl | exact mv8 rfl | exact mv9 rfl) rfl ?_
                                refine AL.yes rfl rfl rfl ?_
                                refine AL.p (by first | exact g_cmp rfl rfl rfl | exact g_scmp rfl rfl rfl | exact g_eqB rfl rfl rfl | exact g_neB rfl rfl rfl) rfl ?_
                                refine AL.p (by first | exact g_pickT (r := .d _) rfl rfl | exact g_pickF (r := .d _) rfl rfl) rfl ?_
                                refine AL.nil ?_
                                refine th_n ?_
                                first | refine AC.condD rfl (fun h15 => ?_) (fun h15 => ?_) | refine AC.condND rfl (fun h15 => ?_) (fun h15 => ?_) | refine AC.condB rfl (fun h15 => ?_) (fun h15 => ?_) | refine AC.condNB rfl (fun h15 => ?_) (fun h15 => ?_)
                                · refine AC.seq ?_
                                  first | (exfalso; omega) | exact absurd h30 (by simp) | exact absurd h29 (by simp) | exact absurd h28 (by simp) | exact absurd h27 (by simp) | exact absurd h26 (by simp) | exact absurd h25 (by simp) | exact absurd h24 (by simp) | exact absurd h23 (by simp) | exact absurd h22 (by simp) | exact absurd h21 (by simp) | exact absurd h20 (by simp) | exact absurd h19 (by simp) | exact absurd h18 (by simp) | exact absurd h17 (by simp) | exact absurd h16 (by simp) | exact absurd h15 (by simp) | exact absurd h14 (by simp) | exact absurd h13 (by simp) | exact absurd h12 (by simp) | exact absurd h11 (by simp) | exact absurd h10 (by simp) | exact absurd h9 (by simp) | exact absurd h8 (by simp) | exact absurd h7 (by simp) | exact absurd h6 (by simp) | exact absurd h5 (by simp) | exact absurd h4 (by simp) | exact absurd h3 (by simp) | exact absurd h2 (by simp) | exact absurd h1 (by simp) | exact absurd h0 (by simp)
                                · refine AC.skip ?_
                                  refine th_n ?_
                                  refine AC.seq ?_
                                  refine AC.region ?_
                                  refine AL.p (by first | exact as1 rfl | exact as2 rfl | exact as3 rfl | exact as4 rfl | exact as5 rfl | exact as6 rfl | exact as7 rfl | exact as8 rfl | exact as9 rfl) rfl ?_
                                  refine AL.nil ?_
                                  refine th_n ?_
                                  refine AC.seq ?_
                                  refine AC.region ?_
                                  refine AL.p (by first | exact mv1 rfl | exact mv2 rfl | exact mv3 rfl | exact mv4 rfl | exact mv5 rfl | exact mv6 rfl | exact mv7 rfl | exact mv8 rfl | exact mv9 rfl) rfl ?_
                                  refine AL.p (by first | exact mv1 rfl | exact mv2 rfl | exact mv3 rfl | exact mv4 rfl | exact mv5 rfl | exact mv6 rfl | exact mv7 rfl | exact mv8 rfl | exact mv9 rfl) rfl ?_
                                  refine AL.q (by exact h_borrow [104] en_heldIntS rfl rfl hcH (.cons (.of (.pred (id := 104) rfl rfl (fun w h => TRep.data h))) (.cons (.of .d) .nil)) rfl) rfl ?_
                                  refine AL.p (by first | exact as1 rfl | exact as2 rfl | exact as3 rfl | exact as4 rfl | exact as5 rfl | exact as6 rfl | exact as7 rfl | exact as8 rfl | exact as9 rfl) rfl ?_
                                  refine AL.nil ?_
                                  refine th_n ?_
                                  refine AC.seq ?_
                                  refine AC.seq ?_
                                  refine AC.region ?_
                                  refine AL.p (by first | exact mv1 rfl | exact mv2 rfl | exact mv3 rfl | exact mv4 rfl | exact mv5 rfl | exact mv6 rfl | exact mv7 rfl | exact mv8 rfl | exact mv9 rfl) rfl ?_
                                  refine AL.p (by first | exact g_cmp rfl rfl rfl | exact g_scmp rfl rfl rfl | exact g_eqB rfl rfl rfl | exact g_neB rfl rfl rfl) rfl ?_
                                  refine AL.nil ?_
                                  refine th_n ?_
                                  first | refine AC.condD rfl (fun h16 => ?_) (fun h16 => ?_) | refine AC.condND rfl (fun h16 => ?_) (fun h16 => ?_) | refine AC.condB rfl (fun h16 => ?_) (fun h16 => ?_) | refine AC.condNB rfl (fun h16 => ?_) (fun h16 => ?_)
                                  · refine AC.seq ?_
                                    first | (exfalso; omega) | exact absurd h30 (by simp) | exact absurd h29 (by simp) | exact absurd h28 (by simp) | exact absurd h27 (by simp) | exact absurd h26 (by simp) | exact absurd h25 (by simp) | exact absurd h24 (by simp) | exact absurd h23 (by simp) | exact absurd h22 (by simp) | exact absurd h21 (by simp) | exact absurd h20 (by simp) | exact absurd h19 (by simp) | exact absurd h18 (by simp) | exact absurd h17 (by simp) | exact absurd h16 (by simp) | exact absurd h15 (by simp) | exact absurd h14 (by simp) | exact absurd h13 (by simp) | exact absurd h12 (by simp) | exact absurd h11 (by simp) | exact absurd h10 (by simp) | exact absurd h9 (by simp) | exact absurd h8 (by simp) | exact absurd h7 (by simp) | exact absurd h6 (by simp) | exact absurd h5 (by simp) | exact absurd h4 (by simp) | exact absurd h3 (by simp) | exact absurd h2 (by simp) | exact absurd h1 (by simp) | exact absurd h0 (by simp)
                                  · refine AC.skip ?_
                                    refine th_n ?_
                                    refine AC.seq ?_
                                    refine AC.seq ?_
                                    refine AC.region ?_
                                    refine AL.p (by first | exact mv1 rfl | exact mv2 rfl | exact mv3 rfl | exact mv4 rfl | exact mv5 rfl | exact mv6 rfl | exact mv7 rfl | exact mv8 rfl | exact mv9 rfl) rfl ?_
                                    refine AL.p (by first | exact mv1 rfl | exact mv2 rfl | exact mv3 rfl | exact mv4 rfl | exact mv5 rfl | exact mv6 rfl | exact mv7 rfl | exact mv8 rfl | exact mv9 rfl) rfl ?_
                                    refine AL.p (by first | exact g_cmp rfl rfl rfl | exact g_scmp rfl rfl rfl | exact g_eqB rfl rfl rfl | exact g_neB rfl rfl rfl) rfl ?_
                                    refine AL.nil ?_
                                    refine th_n ?_
                                    first | refine AC.condD rfl (fun h17 => ?_) (fun h17 => ?_) | refine AC.condND rfl (fun h17 => ?_) (fun h17 => ?_) | refine AC.condB rfl (fun h17 => ?_) (fun h17 => ?_) | refine AC.condNB rfl (fun h17 => ?_) (fun h17 => ?_)
                                    · refine AC.seq ?_
                                      first | (exfalso; omega) | exact absurd h30 (by simp) | exact absurd h29 (by simp) | exact absurd h28 (by simp) | exact absurd h27 (by simp) | exact absurd h26 (by simp) | exact absurd h25 (by simp) | exact absurd h24 (by simp) | exact absurd h23 (by simp) | exact absurd h22 (by simp) | exact absurd h21 (by simp) | exact absurd h20 (by simp) | exact absurd h19 (by simp) | exact absurd h18 (by simp) | exact absurd h17 (by simp) | exact absurd h16 (by simp) | exact absurd h15 (by simp) | exact absurd h14 (by simp) | exact absurd h13 (by simp) | exact absurd h12 (by simp) | exact absurd h11 (by simp) | exact absurd h10 (by simp) | exact absurd h9 (by simp) | exact absurd h8 (by simp) | exact absurd h7 (by simp) | exact absurd h6 (by simp) | exact absurd h5 (by simp) | exact absurd h4 (by simp) | exact absurd h3 (by simp) | exact absurd h2 (by simp) | exact absurd h1 (by simp) | exact absurd h0 (by simp)
                                    · refine AC.skip ?_
                                      refine th_n ?_
                                      refine AC.seq ?_
                                      refine AC.region ?_
                                      refine AL.p (by first | exact as1 rfl | exact as2 rfl | exact as3 rfl | exact as4 rfl | exact as5 rfl | exact as6 rfl | exact as7 rfl | exact as8 rfl | exact as9 rfl) rfl ?_
                                      refine AL.nil ?_
                                      refine th_n ?_
                                      refine AC.ret ?_
                                      refine bq_r ?_
                                      exact ret1 rfl rfl


end Go.Proofs.YtolfgbcnielnoaaGreat