/- Contracts of the functions of the program and of the reference, each proved by a walk through its code. -/
import Derived.WalkKit
import Derived.WalkSpells
import Derived.WalkLawsBesides
import Derived.Deep.Draws
import Derived.Lib.Hide
import Derived.Maps.AppendAt
import Derived.OwnWalk
import Derived.Deep.MidRow
import Derived.Laws.ResultCell
import Derived.Deep.Upon
import Derived.Great.FillDense
import Derived.Laws.Tables
import Derived.Laws.BytesArg
import Derived.Laws.MakeOwn
import Derived.Great.BuildSlice
import Derived.ArgAppend
import Derived.Deep.AppendSrc
import Derived.Test.YtgikfbfagdhopaaGreatDoorProg
import Derived.KernelRfl
import Derived.Orders
import Derived.Laws.IdiomStrings
import Derived.Lib.AppendZerosOnto
import Derived.ProofKit
import Derived.OpenShut
import Derived.Laws.StructEq
import Derived.ChangeKeysEq
import Derived.Sort.Grow
import Derived.Shelf.Strings.Builder1
import Derived.Shelf.Strings.Builder2
import Derived.Shelf.Strings.OnBuilder
import Derived.Shelf.Small.Bits
import Derived.Shelf.Strconv.Itoa0
import Derived.Shelf.Strconv.Itoa1
import Derived.Shelf.LaysM
import Derived.Shelf.Strconv.Itoa2
import Derived.Shelf.Strconv.Itoa3
import Derived.Shelf.Sort.Plain
import Derived.Ground.Names2Prog
import Derived.Shelf.Slices.SearchI
import Derived.Shelf.Slices.In.SortNone
import Derived.Test.YtgikfbfagdhopaaGreatDoorRows
import Derived.Test.YtgikfbfagdhopaaGreatDoorChecked
import Derived.Below
import Derived.Lib.LaidTab
import Derived.Test.YtgikfbfagdhopaaGreatDoorGFe6
set_option linter.all false
set_option maxRecDepth 20000
namespace Go.Proofs.YtgikfbfagdhopaaGreatDoor
open Go.RowKit

theorem run_t {N : Net} : ∀ {hs : List Ev} {u v : Unf}, runI N u hs = some v → ∀ h, h ∈ hs → inR N h.t = true
  | [], _, _, _, _, hh => by cases hh
  | h :: hs, u, v, e, x, hx => by
    cases hf : fitsI N u h with
    | false => rw [runI_no hf] at e; cases e
    | true =>
      rw [runI_yes hf] at e
      rcases List.mem_cons.1 hx with rfl | hx
      · unfold fitsI at hf
        simp only [Bool.and_eq_true] at hf
        unfold fitA at hf
        simp only [Bool.and_eq_true] at hf
        exact hf.1.1
      · exact run_t e x hx
theorem good_small {N : Net} {m : List UInt8} {u : Unf} (hg : goodU N m u = true) : SmallE u.es := by
  have hG := goodU_iff hg
  have hw := hG.tru.w.w
  have hc := hG.c
  have hts : (N.ts.length : Int) ≤ 24 := by
    unfold goodU goodN at hg
    simp only [Bool.and_eq_true, decide_eq_true_eq] at hg
    omega
  refine ⟨hG.e, fun h hh => ?_⟩
  obtain ⟨i, hi, hin⟩ := inR_nat (run_t hG.r h hh)
  exact ⟨by omega, hw.l h hh, fun c hc2 => by have := hw.p h hh c hc2; omega⟩
def feR (N : Net) (m : List UInt8) (u : Unf) : List UInt8 := if goodU N m u = true then evsT u.es else []
theorem sFormatE_spec (N : Net) (m : List UInt8) (u : Unf) (hB : NetL N) (hm : m.length ≤ 2000000) (hu : UnfL u) : ASpec Tryz.prog 6 [netA N, aS (bstr m), unfA u] [] (Pure1 (.tup [aS (bstr (feR N m u)), aT (goodU N m u)])) := by
  have hG := l7Good_spec N m u hB hm hu
  have hT := fun q => l8Text_spec u (good_small (N := N) (m := m) q)
  unfold feR
  obtain ⟨g, hg⟩ : ∃ g, g = goodU N m u := ⟨_, rfl⟩
  rw [← hg] at hG hT ⊢
  refine ASpec.of Tryz.func6 rfl rfl fun C hC => ?_
  refine AC.seq ?_
  refine AC.region ?_
  refine AL.q (by exact h_boxF rfl rfl) rfl ?_
  refine AL.q (by exact h_boxF rfl rfl) rfl ?_
  refine AL.p (by exact as1 rfl) rfl ?_
  refine AL.p (by exact as1 rfl) rfl ?_
  refine AL.nil ?_
  refine th_n ?_
  refine AC.seq ?_
  refine AC.seq ?_
  refine AC.region ?_
  refine AL.p (by exact g_load_refN rfl rfl rfl rfl) rfl ?_
  refine AL.p (by exact mv1 rfl) rfl ?_
  refine AL.p (by exact g_load_refN rfl rfl rfl rfl) rfl ?_
  refine AL.q (by exact h_pure en_l7Good rfl rfl (by repeat (first | exact rfl | exact DLead.same | refine ⟨_, _, rfl, ?_, ?_⟩ | refine ⟨_, rfl, ?_⟩)) hG rfl) rfl ?_
  refine AL.p (by exact g_not rfl) rfl ?_
  refine AL.nil ?_
  refine th_n ?_
  refine AC.condB rfl (fun h0 => ?_) (fun h0 => ?_)
  · refine AC.seq ?_
    refine AC.region ?_
    refine AL.p (by exact as1 rfl) rfl ?_
    refine AL.p (by exact as1 rfl) rfl ?_
    refine AL.nil ?_
    refine th_n ?_
    refine AC.ret ?_
    refine th_r ?_
    refine bq_r ?_
    have q := (Bool.not_eq_true' _).mp h0
    exact ret2 rfl (by rw [q, if_neg Bool.false_ne_true]; rfl) (by rw [q])
  · refine AC.skip ?_
    refine th_n ?_
    refine AC.seq ?_
    have q := (Bool.not_eq_false' _).mp h0
    have hT2 := hT q
    refine AC.region ?_
    refine AL.p (by exact g_load_refN rfl rfl rfl rfl) rfl ?_
    refine AL.q (by exact h_pure en_l8Text rfl rfl (by repeat (first | exact rfl | exact DLead.same | refine ⟨_, _, rfl, ?_, ?_⟩ | refine ⟨_, rfl, ?_⟩)) hT2 rfl) rfl ?_
    refine AL.p (by exact as1 rfl) rfl ?_
    refine AL.p (by exact as1 rfl) rfl ?_
    refine AL.nil ?_
    refine th_n ?_
    refine AC.ret ?_
    refine bq_r ?_
    exact ret2 rfl (by rw [q, if_pos rfl]) (by rw [q])
theorem en_sFormatE : Enters Tryz.prog 6 := enters_of Tryz.func6 rfl rfl
theorem iFormatE_spec (N : Net) (m : List UInt8) (u : Unf) (hB : NetL N) (hm : m.length ≤ 2000000) (hu : UnfL u) : ASpecI powI Tryz.prog 9 [netA N, aS (bstr m), unfA u] [] (Pure1 (.tup [aS (bstr (feR N m u)), aT (goodU N m u)])) := by
  have hG := iIsValidUnf_spec N m u hB hm hu
  have hT := fun q => fmtEvents_spec u.es (good_small (N := N) (m := m) q)
  unfold feR
  obtain ⟨g, hg⟩ : ∃ g, g = goodU N m u := ⟨_, rfl⟩
  rw [← hg] at hG hT ⊢
  refine ASpecI.of Tryz.func9 rfl rfl powI_turn fun C hC hIc => ?_
  have hI := hIc rfl
  refine AC.seq ?_
  refine AC.region ?_
  refine AL.q (by exact h_boxF rfl rfl) rfl ?_
  refine AL.q (by exact h_boxF rfl rfl) rfl ?_
  refine AL.p (by exact as1 rfl) rfl ?_
  refine AL.p (by exact as1 rfl) rfl ?_
  refine AL.nil ?_
  refine th_n ?_
  refine AC.seq ?_
  refine AC.seq ?_
  refine AC.region ?_
  refine AL.p (by exact g_load_refN rfl rfl rfl rfl) rfl ?_
  refine AL.p (by exact mv1 rfl) rfl ?_
  refine AL.p (by exact g_load_refN rfl rfl rfl rfl) rfl ?_
  refine AL.q (by exact h_pure en_iIsValidUnf rfl rfl (by repeat (first | exact rfl | exact DLead.same | refine ⟨_, _, rfl, ?_, ?_⟩ | refine ⟨_, rfl, ?_⟩)) hG rfl) rfl ?_
  refine AL.p (by exact g_not rfl) rfl ?_
  refine AL.nil ?_
  refine th_n ?_
  refine AC.condB rfl (fun h0 => ?_) (fun h0 => ?_)
  · refine AC.seq ?_
    refine AC.region ?_
    refine AL.p (by exact as1 rfl) rfl ?_
    refine AL.p (by exact as1 rfl) rfl ?_
    refine AL.nil ?_
    refine th_n ?_
    refine AC.ret ?_
    refine th_r ?_
    refine bq_r ?_
    have q := (Bool.not_eq_true' _).mp h0
    exact ret2 rfl (by rw [q, if_neg Bool.false_ne_true]; rfl) (by rw [q])
  · refine AC.skip ?_
    refine th_n ?_
    refine AC.seq ?_
    have q := (Bool.not_eq_false' _).mp h0
    have hT2 := hT q
    refine AC.region ?_
    refine AL.p (by exact g_fa_ref rfl rfl rfl rfl rfl rfl) rfl ?_
    refine AL.p (by exact g_load_ref rfl rfl rfl) rfl ?_
    refine AL.pureI hI en_fmtEvents rfl rfl (by repeat (first | exact rfl | exact DLead.same | refine ⟨_, _, rfl, ?_, ?_⟩)) hT2 rfl rfl ?_
    refine AL.p (by exact as1 rfl) rfl ?_
    refine AL.p (by exact as1 rfl) rfl ?_
    refine AL.nil ?_
    refine th_n ?_
    refine AC.ret ?_
    refine bq_r ?_
    exact ret2 rfl (by rw [q, if_pos rfl]) (by rw [q])
theorem en_iFormatE : Enters Tryz.prog 9 := enters_of Tryz.func9 rfl rfl
set_option maxRecDepth 20000 in
set_option maxHeartbeats 8000000 in
theorem FnExactFormatEvents_spec (N : Net) (m : List UInt8) (u : Unf) (hN : ArgN N) (hm : m.length ≤ 9223372036854775807) (hu : ArgU u) : ASpecI powI Tryz.prog 3 [lnetA N, aS (bstr m), lunfA u] [] (Pure1 (aT true)) := by
  have hsz := bstr_size m
  have hS1 := szNet_spec N 1048576 (by omega) hN.l hN.t
  have hI1 := szNt_in (ts := N.ts) (left := 1048576) (by omega)
  obtain ⟨a, ha⟩ : ∃ a, a = szNt N.ts 1048576 := ⟨_, rfl⟩
  rw [← ha] at hS1 hI1
  refine ASpecI.of Tryz.func3 rfl rfl powI_turn fun C hC hIc => ?_
  have hI := hIc rfl
  refine AC.seq ?_
  refine AC.region ?_
  refine AL.q (by exact h_boxF rfl rfl) rfl ?_
  refine AL.q (by exact h_boxF rfl rfl) rfl ?_
  refine AL.p (by exact as1 rfl) rfl ?_
  refine AL.nil ?_
  refine th_n ?_
  refine AC.seq ?_
  refine AC.seq ?_
  refine AC.region ?_
  refine AL.p (by exact mv1 rfl) rfl ?_
  refine AL.p (by exact g_len_str rfl rfl rfl) rfl ?_
  refine AL.p (by exact g_cmp rfl rfl rfl) rfl ?_
  refine AL.nil ?_
  refine th_n ?_
  refine AC.condD rfl (fun h0 => ?_) (fun h0 => ?_)
  · refine AC.seq ?_
    refine AC.region ?_
    refine AL.p (by exact as1 rfl) rfl ?_
    refine AL.nil ?_
    refine th_n ?_
    refine AC.ret ?_
    refine th_r ?_
    refine bq_r ?_
    exact ret1 rfl rfl
  · refine AC.skip ?_
    refine th_n ?_
    refine AC.seq ?_
    refine AC.region ?_
    refine AL.p (by exact as1 rfl) rfl ?_
    refine AL.nil ?_
    refine th_n ?_
    refine AC.seq ?_
    refine AC.region ?_
    refine AL.p (by exact g_load_refN rfl rfl rfl rfl) rfl ?_
    refine AL.p (by exact mv1 rfl) rfl ?_
    refine AL.q (by exact h_pure en_szNet rfl rfl (by repeat (first | exact rfl | exact DLead.same | refine ⟨_, _, rfl, ?_, ?_⟩ | refine ⟨_, rfl, ?_⟩)) hS1 rfl) rfl ?_
    refine AL.p (by exact as1 rfl) rfl ?_
    refine AL.nil ?_
    refine th_n ?_
    refine AC.seq ?_
    refine AC.seq ?_
    refine AC.region ?_
    refine AL.p (by exact mv1 rfl) rfl ?_
    refine AL.p (by exact g_cmp rfl rfl rfl) rfl ?_
    refine AL.nil ?_
    refine th_n ?_
    refine AC.condD rfl (fun h1 => ?_) (fun h1 => ?_)
    · refine AC.seq ?_
      refine AC.region ?_
      refine AL.p (by exact as1 rfl) rfl ?_
      refine AL.nil ?_
      refine th_n ?_
      refine AC.ret ?_
      refine th_r ?_
      refine bq_r ?_
      exact ret1 rfl rfl
    · refine AC.skip ?_
      refine th_n ?_
      refine AC.seq ?_
      have hNl : (N.ts.length : Int) ≤ 1048576 ∧ ∀ t, t ∈ N.ts → (t.pre.length : Int) ≤ 1048576 ∧ (t.post.length : Int) ≤ 1048576 := by rcases hI1 with h | h; omega; exact h.2.2
      have haI : 0 ≤ a ∧ a ≤ 1048576 := by omega
      have hS2 := szUnf_spec u a haI hu.c hu.l hu.t
      have hI2 := szU_in (u := u) haI
      obtain ⟨b, hb⟩ : ∃ b, b = szU u a := ⟨_, rfl⟩
      rw [← hb] at hS2 hI2
      refine AC.region ?_
      refine AL.p (by exact g_load_refN rfl rfl rfl rfl) rfl ?_
      refine AL.p (by exact mv1 rfl) rfl ?_
      refine AL.q (by exact h_pure en_szUnf rfl rfl (by repeat (first | exact rfl | exact DLead.same | refine ⟨_, _, rfl, ?_, ?_⟩ | refine ⟨_, rfl, ?_⟩)) hS2 rfl) rfl ?_
      refine AL.p (by exact as1 rfl) rfl ?_
      refine AL.nil ?_
      refine th_n ?_
      refine AC.seq ?_
      refine AC.seq ?_
      refine AC.region ?_
      refine AL.p (by exact mv1 rfl) rfl ?_
      refine AL.p (by exact g_cmp rfl rfl rfl) rfl ?_
      refine AL.nil ?_
      refine th_n ?_
      refine AC.condD rfl (fun h2 => ?_) (fun h2 => ?_)
      · refine AC.seq ?_
        refine AC.region ?_
        refine AL.p (by exact as1 rfl) rfl ?_
        refine AL.nil ?_
        refine th_n ?_
        refine AC.ret ?_
        refine th_r ?_
        refine bq_r ?_
        exact ret1 rfl rfl
      · refine AC.skip ?_
        refine th_n ?_
        refine AC.seq ?_
        have hm' : m.length ≤ 1048576 := by omega
        have hUl : (u.cs.length : Int) ≤ 1048576 ∧ (u.es.length : Int) ≤ 1048576 ∧ ∀ e, e ∈ u.es → (e.pre.length : Int) ≤ 1048576 := by rcases hI2 with h | h; omega; exact ⟨by omega, by omega, fun e he => by have := h.2.2.2.2 e he; omega⟩
        have hNl1 : N.ts.length ≤ 1048576 := by omega
        have hNl2 : ∀ t, t ∈ N.ts → t.pre.length ≤ 1048576 ∧ t.post.length ≤ 1048576 := fun t ht => by have := hNl.2 t ht; omega
        have hUc : u.cs.length ≤ 1048576 := by omega
        have hUe : u.es.length ≤ 1048576 := by omega
        have hUt : ∀ e, e ∈ u.es → e.pre.length ≤ 1048576 := fun e he => by have := hUl.2.2 e he; omega
        have hNL : NetL N := ⟨hN.p, by omega, fun t ht => by have := hNl2 t ht; omega⟩
        have hUL : UnfL u := ⟨hUe, hUc, fun e he => by have := hUt e he; omega⟩
        have hcToNet := toNet_spec N hNl1 hNl2
        have hcToUnf := toUnf_spec u hUc hUe hUt
        have hcEqNet := eqNet_spec N N hNl1 hNl1 hNl2 hNl2
        have hcEqUnf := eqUnf_spec u u hUe hUe hUt hUt hUc hUc
        rw [decide_eq_true rfl] at hcEqNet hcEqUnf
        have hG1 := sFormatE_spec N m u hNL (by omega) hUL
        have hG2 := iFormatE_spec N m u hNL (by omega) hUL
        obtain ⟨g0, hg0⟩ : ∃ g, g = feR N m u := ⟨_, rfl⟩
        rw [← hg0] at hG1 hG2
        obtain ⟨g1, hg1⟩ : ∃ g, g = goodU N m u := ⟨_, rfl⟩
        rw [← hg1] at hG1 hG2
        refine AC.drawn' mixed_ok [[], [0], [], [], [0,1,3], [0,1,2,3,4], [0,1,2,3,4,5], [0,1,2,3,4,5,6], [0,1,2,3,4,5,6], [0,1,2,3,4,5,6,7], [0,1,2,3,4,5,6,7,8,9]] (by decide) ?_
        refine DF.op 0 [] 11 rfl rfl rfl (.free rfl (NOp.of (by exact g_load_refN rfl rfl rfl rfl))) rfl ?_
        refine DF.op 1 [0] 11 rfl rfl rfl (.free rfl (by exact h_pure en_toNet rfl rfl (by repeat (first | exact rfl | exact DLead.same | refine ⟨_, _, rfl, ?_, ?_⟩ | refine ⟨_, rfl, ?_⟩)) hcToNet rfl)) rfl ?_
        refine DF.op 2 [] 11 rfl rfl rfl (.free rfl (NOp.of (by exact mv1 rfl))) rfl ?_
        refine DF.op 3 [] 11 rfl rfl rfl (.free rfl (NOp.of (by exact g_load_refN rfl rfl rfl rfl))) rfl ?_
        refine DF.op 4 [0,1,3] 11 rfl rfl rfl (.free rfl (by exact h_pure en_toUnf rfl rfl (by repeat (first | exact rfl | exact DLead.same | refine ⟨_, _, rfl, ?_, ?_⟩ | refine ⟨_, rfl, ?_⟩)) hcToUnf rfl)) rfl ?_
        refine DF.op 5 [0,1,2,3,4] 11 rfl rfl rfl (.free rfl (by exact h_pure en_sFormatE rfl rfl (by repeat (first | exact rfl | exact DLead.same | refine ⟨_, _, rfl, ?_, ?_⟩ | refine ⟨_, rfl, ?_⟩)) hG1 rfl)) rfl ?_
        refine DF.op 6 [0,1,2,3,4,5] 11 rfl rfl rfl (.free rfl (NOp.of (by exact mv5 rfl))) rfl ?_
        refine DF.op 7 [0,1,2,3,4,5,6] 11 rfl rfl rfl (.free rfl (NOp.of (by exact g_extract (r := .d _) rfl rfl))) rfl ?_
        refine DF.op 8 [0,1,2,3,4,5,6] 11 rfl rfl rfl (.free rfl (NOp.of (by exact g_extract (r := .d _) rfl rfl))) rfl ?_
        refine DF.op 9 [0,1,2,3,4,5,6,7] 11 rfl rfl rfl (.free rfl (NOp.of (by exact as1 rfl))) rfl ?_
        refine DF.op 10 [0,1,2,3,4,5,6,7,8,9] 11 rfl rfl rfl (.free rfl (NOp.of (by exact as1 rfl))) rfl ?_
        refine DF.fin (ps := [(0, 2), (0, 3), (1, 2), (1, 3), (2, 0), (2, 1), (2, 3), (2, 4), (3, 0), (3, 1), (3, 2), (4, 2), (7, 8), (8, 7), (8, 9), (9, 8)]) 11 rfl (by decide +kernel) (by decide +kernel) (by rfl) ?_
        refine th_n ?_
        refine AC.seq ?_
        refine AC.region ?_
        refine AL.p (by exact g_load_refN rfl rfl rfl rfl) rfl ?_
        refine AL.q (by exact h_pure en_toNet rfl rfl (by repeat (first | exact rfl | exact DLead.same | refine ⟨_, _, rfl, ?_, ?_⟩ | refine ⟨_, rfl, ?_⟩)) hcToNet rfl) rfl ?_
        refine AL.q (by exact h_alloc rfl) rfl ?_
        refine AL.q (by exact h_store rfl rfl rfl rfl rfl rfl) rfl ?_
        refine AL.nil ?_
        refine th_n ?_
        refine AC.seq ?_
        refine AC.region ?_
        refine AL.p (by exact g_load_refN rfl rfl rfl rfl) rfl ?_
        refine AL.q (by exact h_pure en_toUnf rfl rfl (by repeat (first | exact rfl | exact DLead.same | refine ⟨_, _, rfl, ?_, ?_⟩ | refine ⟨_, rfl, ?_⟩)) hcToUnf rfl) rfl ?_
        refine AL.q (by exact h_alloc rfl) rfl ?_
        refine AL.q (by exact h_store rfl rfl rfl rfl rfl rfl) rfl ?_
        refine AL.nil ?_
        refine th_n ?_
        refine AC.seq ?_
        refine AC.region ?_
        refine AL.p (by exact g_load_ptrN rfl rfl rfl rfl rfl) rfl ?_
        refine AL.p (by exact mv1 rfl) rfl ?_
        refine AL.p (by exact g_load_ptrN rfl rfl rfl rfl rfl) rfl ?_
        refine AL.pureI hI en_iFormatE rfl rfl (by repeat (first | exact rfl | exact DLead.same | refine ⟨_, _, rfl, ?_, ?_⟩ | refine ⟨_, rfl, ?_⟩)) hG2 rfl rfl ?_
        refine AL.p (by exact mv5 rfl) rfl ?_
        refine AL.p (by exact g_extract (r := .d _) rfl rfl) rfl ?_
        refine AL.p (by exact g_extract (r := .d _) rfl rfl) rfl ?_
        refine AL.p (by exact as1 rfl) rfl ?_
        refine AL.p (by exact as1 rfl) rfl ?_
        refine AL.nil ?_
        refine th_n ?_
        refine AC.seq ?_
        refine AC.seq ?_
        refine AC.region ?_
        refine AL.p (by exact mv1 rfl) rfl ?_
        refine AL.p (by exact mv1 rfl) rfl ?_
        refine AL.p (by exact g_scmp rfl rfl rfl) rfl ?_
        refine AL.p (by exact mv1 rfl) rfl ?_
        refine AL.caseGN rfl rfl (fun h3 => ?_) (fun h3 => ?_)
        · refine AL.not rfl rfl rfl rfl rfl ?_
          refine AL.not rfl rfl rfl rfl rfl ?_
          refine AL.not rfl rfl rfl rfl rfl ?_
          refine AL.p (by exact g_pickT (r := .d _) rfl rfl) rfl ?_
          refine AL.nil ?_
          refine th_n ?_
          refine AC.condT rfl ?_
          refine AC.seq ?_
          exact absurd h3 (by simp)
        · refine AL.yes rfl rfl rfl ?_
          refine AL.p (by exact mv1 rfl) rfl ?_
          refine AL.yes rfl rfl rfl ?_
          refine AL.p (by exact mv1 rfl) rfl ?_
          refine AL.yes rfl rfl rfl ?_
          refine AL.p (by exact g_neB rfl rfl rfl) rfl ?_
          refine AL.p (by exact g_pickF (r := .d _) rfl rfl) rfl ?_
          refine AL.nil ?_
          refine th_n ?_
          refine AC.condND rfl (fun h4 => ?_) (fun h4 => ?_)
          · refine AC.seq ?_
            exact absurd h4 (by simp)
          · refine AC.skip ?_
            refine th_n ?_
            refine AC.seq ?_
            refine AC.seq ?_
            refine AC.drawn' mixed_ok [[], [], [1], [0,1,2], [0,1,2,3]] (by decide) ?_
            refine DF.op 0 [] 5 rfl rfl rfl (.free rfl (NOp.of (by exact g_load_ptrN rfl rfl rfl rfl rfl))) rfl ?_
            refine DF.op 1 [] 5 rfl rfl rfl (.free rfl (NOp.of (by exact g_load_refN rfl rfl rfl rfl))) rfl ?_
            refine DF.op 2 [1] 5 rfl rfl rfl (.free rfl (by exact h_pure en_toNet rfl rfl (by repeat (first | exact rfl | exact DLead.same | refine ⟨_, _, rfl, ?_, ?_⟩ | refine ⟨_, rfl, ?_⟩)) hcToNet rfl)) rfl ?_
            refine DF.op 3 [0,1,2] 5 rfl rfl rfl (.free rfl (by exact h_pure en_eqNet rfl rfl (by repeat (first | exact rfl | exact DLead.same | refine ⟨_, _, rfl, ?_, ?_⟩ | refine ⟨_, rfl, ?_⟩)) hcEqNet rfl)) rfl ?_
            refine DF.op 4 [0,1,2,3] 5 rfl rfl rfl (.free rfl (NOp.of (by exact g_not rfl))) rfl ?_
            refine DF.fin (ps := [(0, 1), (0, 2), (1, 0), (2, 0)]) 5 rfl (by decide +kernel) (by decide +kernel) (by rfl) ?_
            refine th_n ?_
            refine AC.condB rfl (fun h5 => ?_) (fun h5 => ?_)
            · refine AC.seq ?_
              exact absurd h5 (by simp)
            · refine AC.skip ?_
              refine th_n ?_
              refine AC.seq ?_
              refine AC.seq ?_
              refine AC.drawn' mixed_ok [[], [], [1], [0,1,2], [0,1,2,3]] (by decide) ?_
              refine DF.op 0 [] 5 rfl rfl rfl (.free rfl (NOp.of (by exact g_load_ptrN rfl rfl rfl rfl rfl))) rfl ?_
              refine DF.op 1 [] 5 rfl rfl rfl (.free rfl (NOp.of (by exact g_load_refN rfl rfl rfl rfl))) rfl ?_
              refine DF.op 2 [1] 5 rfl rfl rfl (.free rfl (by exact h_pure en_toUnf rfl rfl (by repeat (first | exact rfl | exact DLead.same | refine ⟨_, _, rfl, ?_, ?_⟩ | refine ⟨_, rfl, ?_⟩)) hcToUnf rfl)) rfl ?_
              refine DF.op 3 [0,1,2] 5 rfl rfl rfl (.free rfl (by exact h_pure en_eqUnf rfl rfl (by repeat (first | exact rfl | exact DLead.same | refine ⟨_, _, rfl, ?_, ?_⟩ | refine ⟨_, rfl, ?_⟩)) hcEqUnf rfl)) rfl ?_
              refine DF.op 4 [0,1,2,3] 5 rfl rfl rfl (.free rfl (NOp.of (by exact g_not rfl))) rfl ?_
              refine DF.fin (ps := [(0, 1), (0, 2), (1, 0), (2, 0)]) 5 rfl (by decide +kernel) (by decide +kernel) (by rfl) ?_
              refine th_n ?_
              refine AC.condB rfl (fun h6 => ?_) (fun h6 => ?_)
              · refine AC.seq ?_
                exact absurd h6 (by simp)
              · refine AC.skip ?_
                refine th_n ?_
                refine AC.seq ?_
                refine AC.region ?_
                refine AL.p (by exact as1 rfl) rfl ?_
                refine AL.nil ?_
                refine th_n ?_
                refine AC.ret ?_
                refine bq_r ?_
                exact ret1 rfl rfl
end Go.Proofs.YtgikfbfagdhopaaGreatDoor

