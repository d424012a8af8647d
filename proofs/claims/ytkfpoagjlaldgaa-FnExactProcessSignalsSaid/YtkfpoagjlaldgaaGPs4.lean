/- Contracts of the functions of the program and of the reference, each proved by a walk through its code. -/
import Derived.Maps.AppendAt
import Derived.OwnWalk
import Derived.Deep.MidRow
import Derived.Laws.ResultCell
import Derived.Deep.Upon
import Derived.Great.FillDense
import Derived.Laws.Tables
import Derived.Laws.BytesArg
import Derived.Laws.MakeOwn
import Derived.Great.BuildSlice
import Derived.ArgAppend
import Derived.Deep.AppendSrc
import Derived.Orders
import Derived.Laws.IdiomStrings
import Derived.Lib.AppendZerosOnto
import Derived.ProofKit
import Derived.OpenShut
import Derived.Lib.SliceRun
import Derived.Laws.Small
import Derived.Laws.StructEq
import Derived.ChangeKeysEq
import Derived.Test.YtkfpoagjlaldgaaProg
import Derived.KernelRfl
import Derived.Sort.Grow
import Derived.Laws.RangeString
import Derived.Below
import Derived.Test.YtkfpoagjlaldgaaChecked
import Derived.Test.YtkfpoagjlaldgaaGPskKit
import Derived.Test.YtkfpoagjlaldgaaGPskRep
import Derived.Test.YtkfpoagjlaldgaaGPskEdges2
import Derived.Test.YtkfpoagjlaldgaaGPs3
set_option linter.all false
set_option maxRecDepth 20000
namespace Go.Proofs.Ytkfpoagjlaldgaa
open Go.RowKit

theorem psR_f {m : List UInt8} {X : List (List UInt8)} (h : (psR m X).2 = false) : (psR m X).1 = [] := by
  unfold psR at h ⊢
  cases hp : procOf (bstr m) with
  | none => rfl
  | some ts =>
    rw [hp] at h
    simp only at h ⊢
    split
    · rfl
    · rename_i q
      rw [if_neg q] at h
      cases hs : sgL X ((partsP ts).flatMap insG) ((partsP ts).flatMap outG) (namesP ts) with
      | none => rfl
      | some l =>
        rw [hs] at h
        unfold psFin at h ⊢
        simp only at h ⊢
        split
        · rfl
        · rename_i q2
          rw [if_neg q2] at h
          cases h
theorem sProcSigs_spec (m : List UInt8) (X : List (List UInt8)) (hm : m.length ≤ 1048576) (hX : X.length ≤ 1048576) : ASpec Try.prog 5 [aS (bstr m), .d (vStr X)] [] (Pure1 (.tup [.d (vSigs (psR m X).1), aT (psR m X).2])) := by
  have hS := l25Signals_spec m X hm hX
  have hf := psR_f (m := m) (X := X)
  unfold SgR at hS
  obtain ⟨l0, hl0⟩ : ∃ l, l = (psR m X).1 := ⟨_, rfl⟩
  obtain ⟨b0, hb0⟩ : ∃ l, l = (psR m X).2 := ⟨_, rfl⟩
  rw [← hl0, ← hb0] at hS hf ⊢
  clear hl0 hb0
  refine ASpec.of Try.func5 rfl rfl fun C hC => ?_
  refine AC.seq ?_
  refine AC.region ?_
  refine AL.p (by first | exact as1 rfl | exact as2 rfl | exact as3 rfl | exact as4 rfl | exact as5 rfl | exact as6 rfl | exact as7 rfl | exact as8 rfl | exact as9 rfl | exact as10 rfl | exact as11 rfl) rfl ?_
  refine AL.p (by first | exact as1 rfl | exact as2 rfl | exact as3 rfl | exact as4 rfl | exact as5 rfl | exact as6 rfl | exact as7 rfl | exact as8 rfl | exact as9 rfl | exact as10 rfl | exact as11 rfl) rfl ?_
  refine AL.nil ?_
  refine th_n ?_
  refine AC.seq ?_
  refine AC.region ?_
  refine AL.p (by first | exact mv1 rfl | exact mv2 rfl | exact mv3 rfl | exact mv4 rfl | exact mv5 rfl | exact mv6 rfl | exact mv7 rfl | exact mv8 rfl | exact mv9 rfl | exact mv10 rfl | exact mv11 rfl) rfl ?_
  refine AL.p (by first | exact mv1 rfl | exact mv2 rfl | exact mv3 rfl | exact mv4 rfl | exact mv5 rfl | exact mv6 rfl | exact mv7 rfl | exact mv8 rfl | exact mv9 rfl | exact mv10 rfl | exact mv11 rfl) rfl ?_
  refine AL.r (by exact h_funR (cs := []) en_l25Signals rfl rfl (by repeat (first | exact rfl | exact DLead.same | exact DLead.nil | refine ⟨_, _, rfl, ?_, ?_⟩ | refine ⟨_, rfl, ?_⟩)) (by repeat (first | exact True.intro | refine And.intro ?_ ?_ | exact DLead.same | exact DLead.eqI (by omega) | exact DLead.eqI (by dsimp only; omega) | exact DLead.nil | exact rfl | refine ⟨_, _, rfl, rfl, ?_⟩ | refine ⟨_, rfl, ?_⟩ | refine ⟨_, _, rfl, ?_, ?_⟩)) hS rfl rfl rfl) rfl ?_
  rintro _ ⟨_, _, ⟨l, b, hl, hb, rfl, rfl⟩, rfl⟩
  subst hb
  refine AL.p (by first | exact mv1 rfl | exact mv2 rfl | exact mv3 rfl | exact mv4 rfl | exact mv5 rfl | exact mv6 rfl | exact mv7 rfl | exact mv8 rfl | exact mv9 rfl | exact mv10 rfl | exact mv11 rfl) rfl ?_
  refine AL.p (by first | exact g_extract (r := .d _) rfl rfl | exact g_extract (r := .own _ _) rfl rfl | exact g_extract (r := .agg _) rfl rfl | exact g_extract (r := .ptr _ _) rfl rfl | exact g_extract (r := .dead) rfl rfl) rfl ?_
  refine AL.p (by first | exact g_extract (r := .d _) rfl rfl | exact g_extract (r := .own _ _) rfl rfl | exact g_extract (r := .agg _) rfl rfl | exact g_extract (r := .ptr _ _) rfl rfl | exact g_extract (r := .dead) rfl rfl) rfl ?_
  refine AL.p (by first | exact as1 rfl | exact as2 rfl | exact as3 rfl | exact as4 rfl | exact as5 rfl | exact as6 rfl | exact as7 rfl | exact as8 rfl | exact as9 rfl | exact as10 rfl | exact as11 rfl) rfl ?_
  refine AL.p (by first | exact as1 rfl | exact as2 rfl | exact as3 rfl | exact as4 rfl | exact as5 rfl | exact as6 rfl | exact as7 rfl | exact as8 rfl | exact as9 rfl | exact as10 rfl | exact as11 rfl) rfl ?_
  refine AL.nil ?_
  refine th_n ?_
  refine AC.seq ?_
  refine AC.seq ?_
  refine AC.region ?_
  refine AL.p (by first | exact mv1 rfl | exact mv2 rfl | exact mv3 rfl | exact mv4 rfl | exact mv5 rfl | exact mv6 rfl | exact mv7 rfl | exact mv8 rfl | exact mv9 rfl | exact mv10 rfl | exact mv11 rfl) rfl ?_
  refine AL.p (by first | exact g_not rfl | exact g_neg rfl (by first | exact wrap_i64 (by omega) | exact wrap_u8 (by omega) | exact wrap_u64 (by omega) | rfl)) rfl ?_
  refine AL.nil ?_
  refine th_n ?_
  first | refine AC.condD rfl (fun h0 => ?_) (fun h0 => ?_) | refine AC.condND rfl (fun h0 => ?_) (fun h0 => ?_) | refine AC.condB rfl (fun h0 => ?_) (fun h0 => ?_) | refine AC.condNB rfl (fun h0 => ?_) (fun h0 => ?_)
  · refine AC.seq ?_
    refine AC.region ?_
    refine AL.p (by first | exact as1 rfl | exact as2 rfl | exact as3 rfl | exact as4 rfl | exact as5 rfl | exact as6 rfl | exact as7 rfl | exact as8 rfl | exact as9 rfl | exact as10 rfl | exact as11 rfl) rfl ?_
    refine AL.p (by first | exact as1 rfl | exact as2 rfl | exact as3 rfl | exact as4 rfl | exact as5 rfl | exact as6 rfl | exact as7 rfl | exact as8 rfl | exact as9 rfl | exact as10 rfl | exact as11 rfl) rfl ?_
    refine AL.nil ?_
    refine th_n ?_
    refine AC.ret ?_
    refine th_r ?_
    refine bq_r ?_
    have q := (Bool.not_eq_true' b).mp ‹(!b) = true›
    have w := hf q
    exact ret0 rfl (by rw [w, q]; repeat (first | exact rfl | exact DLead.same | exact DLead.nil | refine ⟨_, _, rfl, ?_, ?_⟩ | refine ⟨_, rfl, ?_⟩))
  · refine AC.skip ?_
    refine th_n ?_
    refine AC.seq ?_
    refine AC.region ?_
    refine AL.p (by first | exact mv1 rfl | exact mv2 rfl | exact mv3 rfl | exact mv4 rfl | exact mv5 rfl | exact mv6 rfl | exact mv7 rfl | exact mv8 rfl | exact mv9 rfl | exact mv10 rfl | exact mv11 rfl) rfl ?_
    refine AL.p (by first | exact as1 rfl | exact as2 rfl | exact as3 rfl | exact as4 rfl | exact as5 rfl | exact as6 rfl | exact as7 rfl | exact as8 rfl | exact as9 rfl | exact as10 rfl | exact as11 rfl) rfl ?_
    refine AL.p (by first | exact as1 rfl | exact as2 rfl | exact as3 rfl | exact as4 rfl | exact as5 rfl | exact as6 rfl | exact as7 rfl | exact as8 rfl | exact as9 rfl | exact as10 rfl | exact as11 rfl) rfl ?_
    refine AL.nil ?_
    refine th_n ?_
    refine AC.ret ?_
    refine bq_r ?_
    have q := (Bool.not_eq_false' b).mp ‹(!b) = false›
    have w := hl q
    exact ret0 rfl (by rw [← w, q]; repeat (first | exact rfl | exact DLead.same | exact DLead.nil | refine ⟨_, _, rfl, ?_, ?_⟩ | refine ⟨_, rfl, ?_⟩))
theorem en_sProcSigs : Enters Try.prog 5 := enters_of Try.func5 rfl rfl
theorem signalOf1_sig (x : Sig) (nm : List UInt8) : ASpec Try.prog 31 [sigA x, .d (.ref [dS (bstr nm)])] [] (Pure1 (aT (decide (x.name = nm)))) := by
  refine ASpec.of Try.func31 rfl rfl fun C hC => ?_
  refine AC.seq ?_
  refine AC.region ?_
  refine AL.q (by exact h_boxF rfl rfl) rfl ?_
  refine AL.p (by first | exact as1 rfl | exact as2 rfl | exact as3 rfl | exact as4 rfl | exact as5 rfl | exact as6 rfl | exact as7 rfl | exact as8 rfl | exact as9 rfl | exact as10 rfl | exact as11 rfl) rfl ?_
  refine AL.nil ?_
  refine th_n ?_
  refine AC.seq ?_
  refine AC.region ?_
  refine AL.p (by first | exact g_fa_ref rfl rfl rfl rfl rfl rfl | exact g_fa_ptr rfl rfl rfl rfl rfl) rfl ?_
  refine AL.p (by first | exact g_load_ref rfl rfl rfl | exact g_load_ptr rfl rfl rfl rfl rfl | exact g_load_refN rfl rfl rfl rfl | exact g_load_ptrN rfl rfl rfl rfl rfl | exact g_load_arr1 rfl rfl rfl rfl (by assumption) | exact g_load_arr rfl rfl rfl rfl (by first | rfl | omega) (by first | assumption | rfl) (by first | assumption | rfl)) rfl ?_
  refine AL.p (by first | exact g_load_ref rfl rfl rfl | exact g_load_ptr rfl rfl rfl rfl rfl | exact g_load_refN rfl rfl rfl rfl | exact g_load_ptrN rfl rfl rfl rfl rfl | exact g_load_arr1 rfl rfl rfl rfl (by assumption) | exact g_load_arr rfl rfl rfl rfl (by first | rfl | omega) (by first | assumption | rfl) (by first | assumption | rfl)) rfl ?_
  refine AL.p (by first | exact g_cmp rfl rfl rfl | exact g_scmp rfl rfl rfl | exact g_eqB rfl rfl rfl | exact g_neB rfl rfl rfl) rfl ?_
  refine AL.p (by first | exact as1 rfl | exact as2 rfl | exact as3 rfl | exact as4 rfl | exact as5 rfl | exact as6 rfl | exact as7 rfl | exact as8 rfl | exact as9 rfl | exact as10 rfl | exact as11 rfl) rfl ?_
  refine AL.nil ?_
  refine th_n ?_
  refine AC.ret ?_
  refine bq_r ?_
  exact ret1 rfl (by simp only [bstr_iff])
theorem en_signalOf1 : Enters Try.prog 31 := enters_of Try.func31 rfl rfl
theorem signalOf_sig (l : List Sig) (nm : List UInt8) (hl : l.length ≤ 2000000) : ASpec Try.prog 18 [.d (vSigs l), aS (bstr nm)] [] (Pure1 (aI (findI (fun x => decide (x.name = nm)) l))) := by
  have hX := indexSig_spec l hl 31 [.ref [dS (bstr nm)]] en_signalOf1 (fun x => decide (x.name = nm)) (fun t _ => signalOf1_sig t nm)
  refine ASpec.of Try.func18 rfl rfl fun C hC => ?_
  refine AC.seq ?_
  refine AC.region ?_
  refine AL.q (by exact h_boxF rfl rfl) rfl ?_
  refine AL.p (by first | exact as1 rfl | exact as2 rfl | exact as3 rfl | exact as4 rfl | exact as5 rfl | exact as6 rfl | exact as7 rfl | exact as8 rfl | exact as9 rfl | exact as10 rfl | exact as11 rfl) rfl ?_
  refine AL.nil ?_
  refine th_n ?_
  refine AC.seq ?_
  refine AC.region ?_
  refine AL.p (by first | exact mv1 rfl | exact mv2 rfl | exact mv3 rfl | exact mv4 rfl | exact mv5 rfl | exact mv6 rfl | exact mv7 rfl | exact mv8 rfl | exact mv9 rfl | exact mv10 rfl | exact mv11 rfl) rfl ?_
  refine AL.p (by exact g_fn rfl) rfl ?_
  refine AL.q (by exact h_pure en_indexSig rfl rfl (by exact ⟨_, _, rfl, .same, _, _, rfl, ⟨_, rfl, leadsL_data _ _⟩, rfl⟩) hX rfl) rfl ?_
  refine AL.p (by first | exact as1 rfl | exact as2 rfl | exact as3 rfl | exact as4 rfl | exact as5 rfl | exact as6 rfl | exact as7 rfl | exact as8 rfl | exact as9 rfl | exact as10 rfl | exact as11 rfl) rfl ?_
  refine AL.nil ?_
  refine th_n ?_
  refine AC.ret ?_
  refine bq_r ?_
  exact ret1 rfl rfl
theorem en_signalOf : Enters Try.prog 18 := enters_of Try.func18 rfl rfl
theorem sgL_all {X A B N : List (List UInt8)} {k : Nat} {acc : List Sig} (h : sgL X A B (N.take k) = some acc) : ∀ x, x ∈ acc → (inS X A x.name && hasS B x.name) = false := (sg_good (N.take k) [] acc (fun x hx => absurd hx List.not_mem_nil) h).1
theorem find_mem {acc : List Sig} {nm : List UInt8} (h : 0 ≤ findI (fun x : Sig => decide (x.name = nm)) acc) : ∃ x, x ∈ acc ∧ x.name = nm := by
  have hf := findI_any (fun x : Sig => decide (x.name = nm)) acc
  rw [decide_eq_true h] at hf
  obtain ⟨x, hx, hd⟩ := List.any_eq_true.1 hf.symm
  exact ⟨x, hx, of_decide_eq_true hd⟩
theorem psFin_long {acc : List Sig} (h : (8 : Int) < acc.length) : psFin (some acc) = ([], false) := if_pos (show acc.length > 8 by omega)
theorem psFin_short {acc : List Sig} (h : ¬ (8 : Int) < acc.length) : psFin (some acc) = (acc, true) := if_neg (show ¬ acc.length > 8 by omega)
set_option maxHeartbeats 8000000 in
theorem iProcSigs_spec (m : List UInt8) (X : List (List UInt8)) (hm : m.length ≤ 1048576) (hX : X.length ≤ 1048576) : ASpec Try.prog 7 [aS (bstr m), .d (vStr X)] [] (Fun1 (.tup [.own 0 (psR m X).1.length, aT (psR m X).2]) [(0, .arr 43 2 (sigsL (psR m X).1))]) := by
  have hsz := bstr_size m
  have hRo := rowOf_T (bstr m) (by omega)
  have hbn : (procOf (bstr m)).isSome = false → psR m X = ([], false) := fun h => psR_none (by cases hp : procOf (bstr m) with | none => rfl | some ts => rw [hp] at h; cases h)
  have hbl : (X.length : Int) > 8 → psR m X = ([], false) := psR_long
  have hbs : (procOf (bstr m)).isSome = true → ∃ ts, procOf (bstr m) = some ts := fun h => by
    cases hp : procOf (bstr m) with
    | none => rw [hp] at h; cases h
    | some ts => exact ⟨ts, rfl⟩
  refine ASpec.of Try.func7 rfl rfl fun C hC => ?_
  refine AC.seq ?_
  refine AC.region ?_
  refine AL.p (by first | exact as1 rfl | exact as2 rfl | exact as3 rfl | exact as4 rfl | exact as5 rfl | exact as6 rfl | exact as7 rfl | exact as8 rfl | exact as9 rfl | exact as10 rfl | exact as11 rfl) rfl ?_
  refine AL.p (by first | exact as1 rfl | exact as2 rfl | exact as3 rfl | exact as4 rfl | exact as5 rfl | exact as6 rfl | exact as7 rfl | exact as8 rfl | exact as9 rfl | exact as10 rfl | exact as11 rfl) rfl ?_
  refine AL.nil ?_
  refine th_n ?_
  refine AC.seq ?_
  refine AC.region ?_
  refine AL.p (by first | exact mv1 rfl | exact mv2 rfl | exact mv3 rfl | exact mv4 rfl | exact mv5 rfl | exact mv6 rfl | exact mv7 rfl | exact mv8 rfl | exact mv9 rfl | exact mv10 rfl | exact mv11 rfl) rfl ?_
  refine AL.r (by exact h_funR (cs := []) en_rowOf rfl rfl (by repeat (first | exact rfl | exact DLead.same | exact DLead.nil | refine ⟨_, _, rfl, ?_, ?_⟩ | refine ⟨_, rfl, ?_⟩)) (by repeat (first | exact True.intro | refine And.intro ?_ ?_ | exact DLead.same | exact DLead.eqI (by omega) | exact DLead.eqI (by dsimp only; omega) | exact DLead.nil | exact rfl | refine ⟨_, _, rfl, rfl, ?_⟩ | refine ⟨_, rfl, ?_⟩ | refine ⟨_, _, rfl, ?_, ?_⟩)) hRo rfl rfl rfl) rfl ?_
  rintro _ ⟨_, _, ⟨v, S, rfl, rfl⟩, rfl⟩
  obtain ⟨ok, hok⟩ : ∃ b, b = (procOf (bstr m)).isSome := ⟨_, rfl⟩
  rw [← hok] at hbn hbs ⊢
  refine AL.p (by first | exact mv1 rfl | exact mv2 rfl | exact mv3 rfl | exact mv4 rfl | exact mv5 rfl | exact mv6 rfl | exact mv7 rfl | exact mv8 rfl | exact mv9 rfl | exact mv10 rfl | exact mv11 rfl) rfl ?_
  refine AL.p (by first | exact g_extract (r := .d _) rfl rfl | exact g_extract (r := .own _ _) rfl rfl | exact g_extract (r := .agg _) rfl rfl | exact g_extract (r := .ptr _ _) rfl rfl | exact g_extract (r := .dead) rfl rfl) rfl ?_
  refine AL.p (by first | exact g_extract (r := .d _) rfl rfl | exact g_extract (r := .own _ _) rfl rfl | exact g_extract (r := .agg _) rfl rfl | exact g_extract (r := .ptr _ _) rfl rfl | exact g_extract (r := .dead) rfl rfl) rfl ?_
  refine AL.p (by first | exact as1 rfl | exact as2 rfl | exact as3 rfl | exact as4 rfl | exact as5 rfl | exact as6 rfl | exact as7 rfl | exact as8 rfl | exact as9 rfl | exact as10 rfl | exact as11 rfl) rfl ?_
  refine AL.p (by first | exact as1 rfl | exact as2 rfl | exact as3 rfl | exact as4 rfl | exact as5 rfl | exact as6 rfl | exact as7 rfl | exact as8 rfl | exact as9 rfl | exact as10 rfl | exact as11 rfl) rfl ?_
  refine AL.nil ?_
  refine th_n ?_
  refine AC.seq ?_
  refine AC.seq ?_
  refine AC.region ?_
  refine AL.p (by first | exact mv1 rfl | exact mv2 rfl | exact mv3 rfl | exact mv4 rfl | exact mv5 rfl | exact mv6 rfl | exact mv7 rfl | exact mv8 rfl | exact mv9 rfl | exact mv10 rfl | exact mv11 rfl) rfl ?_
  refine AL.p (by first | exact g_not rfl | exact g_neg rfl (by first | exact wrap_i64 (by omega) | exact wrap_u8 (by omega) | exact wrap_u64 (by omega) | rfl)) rfl ?_
  refine AL.p (by first | exact mv1 rfl | exact mv2 rfl | exact mv3 rfl | exact mv4 rfl | exact mv5 rfl | exact mv6 rfl | exact mv7 rfl | exact mv8 rfl | exact mv9 rfl | exact mv10 rfl | exact mv11 rfl) rfl ?_
  first | refine AL.caseG rfl rfl (fun h0 => ?_) (fun h0 => ?_) | refine AL.caseGN rfl rfl (fun h0 => ?_) (fun h0 => ?_) | refine AL.caseGB rfl rfl (fun h0 => ?_) (fun h0 => ?_) | refine AL.caseGNB rfl rfl (fun h0 => ?_) (fun h0 => ?_)
  · refine AL.not rfl rfl rfl rfl rfl ?_
    refine AL.not rfl rfl rfl rfl rfl ?_
    refine AL.not rfl rfl rfl rfl rfl ?_
    refine AL.p (by first | exact g_pickT (r := .d _) rfl rfl | exact g_pickF (r := .d _) rfl rfl) rfl ?_
    refine AL.nil ?_
    refine th_n ?_
    refine AC.condT rfl ?_
    refine AC.seq ?_
    refine AC.region ?_
    refine AL.p (by first | exact as1 rfl | exact as2 rfl | exact as3 rfl | exact as4 rfl | exact as5 rfl | exact as6 rfl | exact as7 rfl | exact as8 rfl | exact as9 rfl | exact as10 rfl | exact as11 rfl) rfl ?_
    refine AL.p (by first | exact as1 rfl | exact as2 rfl | exact as3 rfl | exact as4 rfl | exact as5 rfl | exact as6 rfl | exact as7 rfl | exact as8 rfl | exact as9 rfl | exact as10 rfl | exact as11 rfl) rfl ?_
    refine AL.nil ?_
    refine th_n ?_
    refine AC.weak (t := ⟨77, 2000, [(4, .d (.val (.slice none 0 0))), (5, aT false)], []⟩) (Weak.ren _ [] hC rfl (by repeat (first | exact True.intro | refine And.intro ?_ ?_ | exact DLead.same | exact DLead.eqI (by omega) | exact DLead.eqI (by dsimp only; omega) | exact DLead.nil | exact rfl | refine ⟨_, _, rfl, rfl, ?_⟩ | refine ⟨_, rfl, ?_⟩ | refine ⟨_, _, rfl, ?_, ?_⟩)) (by repeat (first | exact True.intro | refine And.intro ?_ ?_ | exact DLead.same | exact DLead.eqI (by omega) | exact DLead.eqI (by dsimp only; omega) | exact DLead.nil | exact rfl | refine ⟨_, _, rfl, rfl, ?_⟩ | refine ⟨_, rfl, ?_⟩ | refine ⟨_, _, rfl, ?_, ?_⟩)) rfl rfl rfl) ?_
    refine AC.weak (Weak.nilOwn (i := 4) (e := 43) (sz := 2) rfl (by decide)) ?_
    refine AC.ret ?_
    refine th_r ?_
    refine bq_r ?_
    first | (have w := hbn ((Bool.not_eq_true' ok).mp ‹(!ok) = true›); rw [w]; exact retX [(0, 2000)] rfl ⟨rfl, rfl⟩ (by repeat (first | exact rfl | exact DLead.same | exact DLead.nil | refine ⟨_, _, rfl, ?_, ?_⟩ | refine ⟨_, rfl, ?_⟩)) (by repeat (first | exact True.intro | refine And.intro ?_ ?_ | exact DLead.same | exact DLead.eqI (by omega) | exact DLead.eqI (by dsimp only; omega) | exact DLead.nil | exact rfl | refine ⟨_, _, rfl, rfl, ?_⟩ | refine ⟨_, rfl, ?_⟩ | refine ⟨_, _, rfl, ?_, ?_⟩)) rfl rfl) | (have w := hbl ‹(X.length : Int) > 8›; rw [w]; exact retX [(0, 2000)] rfl ⟨rfl, rfl⟩ (by repeat (first | exact rfl | exact DLead.same | exact DLead.nil | refine ⟨_, _, rfl, ?_, ?_⟩ | refine ⟨_, rfl, ?_⟩)) (by repeat (first | exact True.intro | refine And.intro ?_ ?_ | exact DLead.same | exact DLead.eqI (by omega) | exact DLead.eqI (by dsimp only; omega) | exact DLead.nil | exact rfl | refine ⟨_, _, rfl, rfl, ?_⟩ | refine ⟨_, rfl, ?_⟩ | refine ⟨_, _, rfl, ?_, ?_⟩)) rfl rfl)
  · refine AL.yes rfl rfl rfl ?_
    refine AL.p (by first | exact mv1 rfl | exact mv2 rfl | exact mv3 rfl | exact mv4 rfl | exact mv5 rfl | exact mv6 rfl | exact mv7 rfl | exact mv8 rfl | exact mv9 rfl | exact mv10 rfl | exact mv11 rfl) rfl ?_
    refine AL.yes rfl rfl rfl ?_
    refine AL.p (by exact g_len_view (k := X.length) rfl rfl (strL_len _)) rfl ?_
    refine AL.yes rfl rfl rfl ?_
    refine AL.p (by first | exact g_cmp rfl rfl rfl | exact g_scmp rfl rfl rfl | exact g_eqB rfl rfl rfl | exact g_neB rfl rfl rfl) rfl ?_
    refine AL.p (by first | exact g_pickT (r := .d _) rfl rfl | exact g_pickF (r := .d _) rfl rfl) rfl ?_
    refine AL.nil ?_
    refine th_n ?_
    first | refine AC.condD rfl (fun h1 => ?_) (fun h1 => ?_) | refine AC.condND rfl (fun h1 => ?_) (fun h1 => ?_) | refine AC.condB rfl (fun h1 => ?_) (fun h1 => ?_) | refine AC.condNB rfl (fun h1 => ?_) (fun h1 => ?_)
    · refine AC.seq ?_
      refine AC.region ?_
      refine AL.p (by first | exact as1 rfl | exact as2 rfl | exact as3 rfl | exact as4 rfl | exact as5 rfl | exact as6 rfl | exact as7 rfl | exact as8 rfl | exact as9 rfl | exact as10 rfl | exact as11 rfl) rfl ?_
      refine AL.p (by first | exact as1 rfl | exact as2 rfl | exact as3 rfl | exact as4 rfl | exact as5 rfl | exact as6 rfl | exact as7 rfl | exact as8 rfl | exact as9 rfl | exact as10 rfl | exact as11 rfl) rfl ?_
      refine AL.nil ?_
      refine th_n ?_
      refine AC.weak (t := ⟨77, 2000, [(4, .d (.val (.slice none 0 0))), (5, aT false)], []⟩) (Weak.ren _ [] hC rfl (by repeat (first | exact True.intro | refine And.intro ?_ ?_ | exact DLead.same | exact DLead.eqI (by omega) | exact DLead.eqI (by dsimp only; omega) | exact DLead.nil | exact rfl | refine ⟨_, _, rfl, rfl, ?_⟩ | refine ⟨_, rfl, ?_⟩ | refine ⟨_, _, rfl, ?_, ?_⟩)) (by repeat (first | exact True.intro | refine And.intro ?_ ?_ | exact DLead.same | exact DLead.eqI (by omega) | exact DLead.eqI (by dsimp only; omega) | exact DLead.nil | exact rfl | refine ⟨_, _, rfl, rfl, ?_⟩ | refine ⟨_, rfl, ?_⟩ | refine ⟨_, _, rfl, ?_, ?_⟩)) rfl rfl rfl) ?_
      refine AC.weak (Weak.nilOwn (i := 4) (e := 43) (sz := 2) rfl (by decide)) ?_
      refine AC.ret ?_
      refine th_r ?_
      refine bq_r ?_
      first | (have w := hbn ((Bool.not_eq_true' ok).mp ‹(!ok) = true›); rw [w]; exact retX [(0, 2000)] rfl ⟨rfl, rfl⟩ (by repeat (first | exact rfl | exact DLead.same | exact DLead.nil | refine ⟨_, _, rfl, ?_, ?_⟩ | refine ⟨_, rfl, ?_⟩)) (by repeat (first | exact True.intro | refine And.intro ?_ ?_ | exact DLead.same | exact DLead.eqI (by omega) | exact DLead.eqI (by dsimp only; omega) | exact DLead.nil | exact rfl | refine ⟨_, _, rfl, rfl, ?_⟩ | refine ⟨_, rfl, ?_⟩ | refine ⟨_, _, rfl, ?_, ?_⟩)) rfl rfl) | (have w := hbl ‹(X.length : Int) > 8›; rw [w]; exact retX [(0, 2000)] rfl ⟨rfl, rfl⟩ (by repeat (first | exact rfl | exact DLead.same | exact DLead.nil | refine ⟨_, _, rfl, ?_, ?_⟩ | refine ⟨_, rfl, ?_⟩)) (by repeat (first | exact True.intro | refine And.intro ?_ ?_ | exact DLead.same | exact DLead.eqI (by omega) | exact DLead.eqI (by dsimp only; omega) | exact DLead.nil | exact rfl | refine ⟨_, _, rfl, rfl, ?_⟩ | refine ⟨_, rfl, ?_⟩ | refine ⟨_, _, rfl, ?_, ?_⟩)) rfl rfl)
    · refine AC.skip ?_
      refine th_n ?_
      refine AC.seq ?_
      obtain ⟨ts, hts⟩ := hbs ((Bool.not_eq_false' ok).mp ‹(!ok) = false›)
      rw [hts, Option.getD_some]
      have hF := prcF_of hts
      have hR := psR_some hts ‹¬ (X.length : Int) > 8›
      obtain ⟨k1, k2, k3⟩ := procOf_ok hts
      have hraw := partsRow_raw ts k2
      have hgood := partsRow_good ts k2
      have hPn : ∀ p, p ∈ partsP ts → p.1.length ≤ 1000 := fun p hp => by unfold partsP at hp; obtain ⟨q, hq, rfl⟩ := List.mem_map.1 hp; have := (hraw.2 q hq).2; have e : q.1.data.toList.length = q.1.size := rfl; show q.1.data.toList.length ≤ 1000; omega
      have hE := handEnds_spec ts (by omega) (fun p hp => (hraw.2 p hp).1) hPn v S
      have hEx := expanded_T ts k2 (by omega) v S
      have hPt := partsOf_T (expandRow ts) (by omega) (fun p hp => by rcases (hgood.2 p hp).1 with h | h <;> (rw [h]; decide))
      have hA := hF.il
      have hB := hF.ol
      have hN := hF.nl
      have hNb := hF.nb
      obtain ⟨A, hAA⟩ : ∃ A, A = (partsP ts).flatMap insG := ⟨_, rfl⟩
      obtain ⟨B, hBB⟩ : ∃ B, B = (partsP ts).flatMap outG := ⟨_, rfl⟩
      obtain ⟨PP, hPP⟩ : ∃ PP, PP = partsP (expandRow ts) := ⟨_, rfl⟩
      have hNP : namesP ts = PP.map (·.1) := by rw [hPP]; rfl
      rw [hNP] at hR hN hNb
      rw [← hPP] at hPt
      rw [← hAA] at hE hR hA
      rw [← hBB] at hE hR hB
      clear hF hAA hBB hNP hPP hgood hraw hPn hbs hts
      refine AC.region ?_
      refine AL.p (by first | exact mv1 rfl | exact mv2 rfl | exact mv3 rfl | exact mv4 rfl | exact mv5 rfl | exact mv6 rfl | exact mv7 rfl | exact mv8 rfl | exact mv9 rfl | exact mv10 rfl | exact mv11 rfl) rfl ?_
      refine AL.q (by exact h_fun (cs := [0]) en_handEnds rfl rfl (by repeat (first | exact rfl | exact DLead.same | exact DLead.nil | refine ⟨_, _, rfl, ?_, ?_⟩ | refine ⟨_, rfl, ?_⟩)) (by repeat (first | exact True.intro | refine And.intro ?_ ?_ | exact DLead.same | exact DLead.eqI (by omega) | exact DLead.eqI (by dsimp only; omega) | exact DLead.nil | exact rfl | refine ⟨_, _, rfl, rfl, ?_⟩ | refine ⟨_, rfl, ?_⟩ | refine ⟨_, _, rfl, ?_, ?_⟩)) hE rfl rfl rfl rfl) rfl ?_
      refine AL.p (by first | exact mv1 rfl | exact mv2 rfl | exact mv3 rfl | exact mv4 rfl | exact mv5 rfl | exact mv6 rfl | exact mv7 rfl | exact mv8 rfl | exact mv9 rfl | exact mv10 rfl | exact mv11 rfl) rfl ?_
      refine AL.p (by first | exact g_extract (r := .d _) rfl rfl | exact g_extract (r := .own _ _) rfl rfl | exact g_extract (r := .agg _) rfl rfl | exact g_extract (r := .ptr _ _) rfl rfl | exact g_extract (r := .dead) rfl rfl) rfl ?_
      refine AL.p (by first | exact g_extract (r := .d _) rfl rfl | exact g_extract (r := .own _ _) rfl rfl | exact g_extract (r := .agg _) rfl rfl | exact g_extract (r := .ptr _ _) rfl rfl | exact g_extract (r := .dead) rfl rfl) rfl ?_
      refine AL.p (by first | exact as1 rfl | exact as2 rfl | exact as3 rfl | exact as4 rfl | exact as5 rfl | exact as6 rfl | exact as7 rfl | exact as8 rfl | exact as9 rfl | exact as10 rfl | exact as11 rfl) rfl ?_
      refine AL.p (by first | exact as1 rfl | exact as2 rfl | exact as3 rfl | exact as4 rfl | exact as5 rfl | exact as6 rfl | exact as7 rfl | exact as8 rfl | exact as9 rfl | exact as10 rfl | exact as11 rfl) rfl ?_
      refine AL.nil ?_
      refine th_n ?_
      refine AC.seq ?_
      refine AC.region ?_
      refine AL.q (by exact h_lit rfl rfl rfl rfl rfl rfl rfl rfl) rfl ?_
      refine AL.p (by first | exact as1 rfl | exact as2 rfl | exact as3 rfl | exact as4 rfl | exact as5 rfl | exact as6 rfl | exact as7 rfl | exact as8 rfl | exact as9 rfl | exact as10 rfl | exact as11 rfl) rfl ?_
      refine AL.nil ?_
      refine th_n ?_
      refine AC.seq ?_
      refine AC.seq ?_
      refine AC.region ?_
      refine AL.p (by first | exact mv1 rfl | exact mv2 rfl | exact mv3 rfl | exact mv4 rfl | exact mv5 rfl | exact mv6 rfl | exact mv7 rfl | exact mv8 rfl | exact mv9 rfl | exact mv10 rfl | exact mv11 rfl) rfl ?_
      refine AL.r (by exact h_funR (cs := [0]) en_expanded rfl rfl (by repeat (first | exact rfl | exact DLead.same | exact DLead.nil | refine ⟨_, _, rfl, ?_, ?_⟩ | refine ⟨_, rfl, ?_⟩)) (by repeat (first | exact True.intro | refine And.intro ?_ ?_ | exact DLead.same | exact DLead.eqI (by omega) | exact DLead.eqI (by dsimp only; omega) | exact DLead.nil | exact rfl | refine ⟨_, _, rfl, rfl, ?_⟩ | refine ⟨_, rfl, ?_⟩ | refine ⟨_, _, rfl, ?_, ?_⟩)) hEx rfl rfl rfl) rfl ?_
      rintro _ ⟨_, _, ⟨u, S', rfl, rfl⟩, rfl⟩
      refine AL.q (by exact h_fun (cs := [24]) en_partsOf rfl rfl (by repeat (first | exact rfl | exact DLead.same | exact DLead.nil | refine ⟨_, _, rfl, ?_, ?_⟩ | refine ⟨_, rfl, ?_⟩)) (by repeat (first | exact True.intro | refine And.intro ?_ ?_ | exact DLead.same | exact DLead.eqI (by omega) | exact DLead.eqI (by dsimp only; omega) | exact DLead.nil | exact rfl | refine ⟨_, _, rfl, rfl, ?_⟩ | refine ⟨_, rfl, ?_⟩ | refine ⟨_, _, rfl, ?_, ?_⟩)) (hPt u S') rfl rfl rfl rfl) rfl ?_
      refine AL.p (by exact g_len_view (k := PP.length) rfl rfl (partsL_len _)) rfl ?_
      refine AL.p (by first | exact mv1 rfl | exact mv2 rfl | exact mv3 rfl | exact mv4 rfl | exact mv5 rfl | exact mv6 rfl | exact mv7 rfl | exact mv8 rfl | exact mv9 rfl | exact mv10 rfl | exact mv11 rfl) rfl ?_
      refine AL.nil ?_
      refine th_n ?_
      refine AC.block ?_
      refine AC.loop (ι := Nat × List Sig) (fun ⟨k, acc⟩ => ⟨77, 308, [(1, .d (vStr X)), (8, .d (vStr A)), (9, .d (vStr B)), (10, .own 100 acc.length), (34, .d (vParts PP)), (35, aI PP.length), (36, aI k)], [(100, some (.arr 43 2 (sigsL acc)))]⟩) (fun x => x.1 ≤ PP.length ∧ sgL X A B ((PP.map (·.1)).take x.1) = some x.2) (fun x => PP.length - x.1) ((0, [])) ?_ (⟨Nat.zero_le _, rfl⟩) ?_
      · exact Weak.ren _ [(100, _)] hC rfl (by dsimp only; repeat (first | exact True.intro | refine And.intro ?_ ?_ | exact DLead.same | exact DLead.eqI (by omega) | exact DLead.eqI (by dsimp only; omega) | exact DLead.nil | exact rfl | refine ⟨_, _, rfl, rfl, ?_⟩ | refine ⟨_, rfl, ?_⟩ | refine ⟨_, _, rfl, ?_, ?_⟩)) (by dsimp only; repeat (first | exact True.intro | refine And.intro ?_ ?_ | exact DLead.same | exact DLead.eqI (by omega) | exact DLead.eqI (by dsimp only; omega) | exact DLead.nil | exact rfl | refine ⟨_, _, rfl, rfl, ?_⟩ | refine ⟨_, rfl, ?_⟩ | refine ⟨_, _, rfl, ?_, ?_⟩)) rfl rfl rfl
      · rintro ⟨k, acc⟩ ⟨hk, hacc⟩
        refine AC.seq ?_
        refine AC.region ?_
        refine AL.p (by first | exact g_cmp rfl rfl rfl | exact g_scmp rfl rfl rfl | exact g_eqB rfl rfl rfl | exact g_neB rfl rfl rfl) rfl ?_
        refine AL.nil ?_
        refine th_n ?_
        refine AC.seq ?_
        first | refine AC.condD rfl (fun h2 => ?_) (fun h2 => ?_) | refine AC.condND rfl (fun h2 => ?_) (fun h2 => ?_) | refine AC.condB rfl (fun h2 => ?_) (fun h2 => ?_) | refine AC.condNB rfl (fun h2 => ?_) (fun h2 => ?_)
        · refine AC.skip ?_
          refine th_n ?_
          refine AC.seq ?_
          refine AC.block ?_
          refine AC.seq ?_
          dsimp only at hk hacc
          have hk1 : k < PP.length := by omega
          have hget := partsL_get hk1
          have hkN : k < (PP.map (·.1)).length := by rw [List.length_map]; exact hk1
          have hal := sgL_len hacc
          have hall := sgL_all hacc
          have hS := sgF_of hkN hacc
          have hnb := hNb _ (List.getElem_mem hkN)
          have hnk : (PP.map (·.1))[k] = PP[k].1 := List.getElem_map _
          have hfm := find_mem (acc := acc) (nm := (PP.map (·.1))[k])
          rw [hnk] at hS hnb hfm
          obtain ⟨⟨nm, mk⟩, hx⟩ : ∃ x, x = PP[k] := ⟨_, rfl⟩
          rw [← hx] at hget hS hnb hfm
          dsimp only at hget hS hnb hfm
          have hC1 := fun (l : List (List UInt8)) (h : l.length ≤ 2000000) => containsStr_spec l h nm
          have hS2 := signalOf_sig acc nm (by omega)
          have hX1 : ASpec Try.prog 19 [.d (vStr X), aS (bstr nm)] [] (Pure1 (aT (hasS X nm))) := by rw [← hasS_turn]; exact hC1 X (by omega)
          have hA1 : ASpec Try.prog 19 [.d (vStr A), aS (bstr nm)] [] (Pure1 (aT (hasS A nm))) := by rw [← hasS_turn]; exact hC1 A hA
          have hB1 : ASpec Try.prog 19 [.d (vStr B), aS (bstr nm)] [] (Pure1 (aT (hasS B nm))) := by rw [← hasS_turn]; exact hC1 B hB
          have hgd : 0 ≤ findI (fun x : Sig => decide (x.name = nm)) acc → ((hasS X nm || hasS A nm) && hasS B nm) = false := fun h => by obtain ⟨x, hx, hn⟩ := hfm h; have := hall x hx; rw [hn] at this; exact this
          obtain ⟨bx, hbx⟩ : ∃ b, b = hasS X nm := ⟨_, rfl⟩
          obtain ⟨ba, hba⟩ : ∃ b, b = hasS A nm := ⟨_, rfl⟩
          obtain ⟨bb, hbb⟩ : ∃ b, b = hasS B nm := ⟨_, rfl⟩
          obtain ⟨fi, hfi⟩ : ∃ b, b = findI (fun x : Sig => decide (x.name = nm)) acc := ⟨_, rfl⟩
          rw [← hbx] at hX1 hS hgd
          rw [← hba] at hA1 hS hgd
          rw [← hbb] at hB1 hS hgd
          rw [← hfi] at hS2 hS hgd
          clear hfm hC1 hall
          refine AC.region ?_
          refine AL.p (by first | exact g_ia_view rfl rfl rfl rfl rfl (by first | rfl | assumption) (by first | assumption | rfl) | exact g_ia_own rfl rfl rfl rfl rfl (by first | rfl | assumption) (by omega) (by first | exact Nat.mul_one _ | rfl | omega)) rfl ?_
          refine AL.p (by first | exact g_load_ref rfl rfl rfl | exact g_load_ptr rfl rfl rfl rfl rfl | exact g_load_refN rfl rfl rfl rfl | exact g_load_ptrN rfl rfl rfl rfl rfl | exact g_load_arr1 rfl rfl rfl rfl (by assumption) | exact g_load_arr rfl rfl rfl rfl (by first | rfl | omega) (by first | assumption | rfl) (by first | assumption | rfl)) rfl ?_
          refine AL.q (by exact h_alloc rfl) rfl ?_
          refine AL.q (by first | exact h_store rfl rfl rfl rfl rfl rfl | exact h_store_arr1 rfl rfl rfl rfl (by first | exact .same | exact .nil) (by assumption) | exact h_store_arr rfl rfl rfl rfl (by first | exact .same | exact .nil) (by first | rfl | omega) (by first | assumption | rfl) (by omega)) rfl ?_
          refine AL.nil ?_
          refine th_n ?_
          refine AC.seq ?_
          refine AC.seq ?_
          refine AC.region ?_
          refine AL.p (by first | exact mv1 rfl | exact mv2 rfl | exact mv3 rfl | exact mv4 rfl | exact mv5 rfl | exact mv6 rfl | exact mv7 rfl | exact mv8 rfl | exact mv9 rfl | exact mv10 rfl | exact mv11 rfl) rfl ?_
          refine AL.p (by first | exact g_fa_ref rfl rfl rfl rfl rfl rfl | exact g_fa_ptr rfl rfl rfl rfl rfl) rfl ?_
          refine AL.p (by first | exact g_load_ref rfl rfl rfl | exact g_load_ptr rfl rfl rfl rfl rfl | exact g_load_refN rfl rfl rfl rfl | exact g_load_ptrN rfl rfl rfl rfl rfl | exact g_load_arr1 rfl rfl rfl rfl (by assumption) | exact g_load_arr rfl rfl rfl rfl (by first | rfl | omega) (by first | assumption | rfl) (by first | assumption | rfl)) rfl ?_
          refine AL.q (by exact h_borrow [100] en_signalOf rfl rfl hS2 (.cons (.of (.own rfl rfl (gownl _) (gownt _))) (.cons (.of .d) .nil)) rfl) rfl ?_
          refine AL.p (by first | exact g_cmp rfl rfl rfl | exact g_scmp rfl rfl rfl | exact g_eqB rfl rfl rfl | exact g_neB rfl rfl rfl) rfl ?_
          refine AL.nil ?_
          refine th_n ?_
          first | refine AC.condD rfl (fun h3 => ?_) (fun h3 => ?_) | refine AC.condND rfl (fun h3 => ?_) (fun h3 => ?_) | refine AC.condB rfl (fun h3 => ?_) (fun h3 => ?_) | refine AC.condNB rfl (fun h3 => ?_) (fun h3 => ?_)
          · refine AC.exit ?_
            refine th_e ?_
            refine ib_y ?_
            refine th_n ?_
            refine AC.region ?_
            refine AL.p (by first | exact g_arith rfl rfl rfl (by first | exact wrap_i64 (by omega) | exact wrap_u8 (by omega) | exact wrap_u64 (by omega) | rfl) | exact g_sadd rfl rfl (by first | assumption | omega | (simp only [ByteArray.size_append, bstr_size, List.length_take, List.length_drop, List.length_cons, List.length_nil]; omega))) rfl ?_
            refine AL.p (by first | exact mv1 rfl | exact mv2 rfl | exact mv3 rfl | exact mv4 rfl | exact mv5 rfl | exact mv6 rfl | exact mv7 rfl | exact mv8 rfl | exact mv9 rfl | exact mv10 rfl | exact mv11 rfl) rfl ?_
            refine AL.nil ?_
            refine th_n ?_
            first | (exfalso; omega) | (have w := hS.same (hgd ‹0 ≤ fi›) (Int.not_lt.2 ‹0 ≤ fi›); exact ⟨(k + 1, acc), ⟨hk1, w⟩, by dsimp only; omega, Weak.ren _ [(100, _)] hC rfl (by dsimp only; repeat (first | exact True.intro | refine And.intro ?_ ?_ | exact DLead.same | exact DLead.eqI (by omega) | exact DLead.eqI (by dsimp only; omega) | exact DLead.nil | exact rfl | refine ⟨_, _, rfl, rfl, ?_⟩ | refine ⟨_, rfl, ?_⟩ | refine ⟨_, _, rfl, ?_, ?_⟩)) (by dsimp only; repeat (first | exact True.intro | refine And.intro ?_ ?_ | exact DLead.same | exact DLead.eqI (by omega) | exact DLead.eqI (by dsimp only; omega) | exact DLead.nil | exact rfl | refine ⟨_, _, rfl, rfl, ?_⟩ | refine ⟨_, rfl, ?_⟩ | refine ⟨_, _, rfl, ?_, ?_⟩)) rfl rfl rfl⟩) | (have w0 := ‹bx = true›; have w := hS.one (by rw [w0]; rfl) ‹bb = false› (Int.not_le.1 ‹¬ 0 ≤ fi›); exact ⟨(k + 1, acc ++ [⟨nm, 1⟩]), ⟨hk1, w⟩, by dsimp only; omega, Weak.ren _ [(100, _)] hC rfl (by dsimp only; repeat (first | exact True.intro | refine And.intro ?_ ?_ | exact DLead.same | exact DLead.eqI (by omega) | exact DLead.eqI (by dsimp only; omega) | exact DLead.nil | exact rfl | refine ⟨_, _, rfl, rfl, ?_⟩ | refine ⟨_, rfl, ?_⟩ | refine ⟨_, _, rfl, ?_, ?_⟩)) (by dsimp only; repeat (first | exact True.intro | refine And.intro ?_ ?_ | exact DLead.same | exact DLead.eqI (by omega) | exact DLead.eqI (by dsimp only; omega) | exact DLead.nil | exact rfl | refine ⟨_, _, rfl, rfl, ?_⟩ | refine ⟨_, rfl, ?_⟩ | refine ⟨_, _, rfl, ?_, ?_⟩)) rfl rfl rfl⟩) | (have w0 := ‹ba = true›; have w := hS.one (by rw [w0, Bool.or_true]) ‹bb = false› (Int.not_le.1 ‹¬ 0 ≤ fi›); exact ⟨(k + 1, acc ++ [⟨nm, 1⟩]), ⟨hk1, w⟩, by dsimp only; omega, Weak.ren _ [(100, _)] hC rfl (by dsimp only; repeat (first | exact True.intro | refine And.intro ?_ ?_ | exact DLead.same | exact DLead.eqI (by omega) | exact DLead.eqI (by dsimp only; omega) | exact DLead.nil | exact rfl | refine ⟨_, _, rfl, rfl, ?_⟩ | refine ⟨_, rfl, ?_⟩ | refine ⟨_, _, rfl, ?_, ?_⟩)) (by dsimp only; repeat (first | exact True.intro | refine And.intro ?_ ?_ | exact DLead.same | exact DLead.eqI (by omega) | exact DLead.eqI (by dsimp only; omega) | exact DLead.nil | exact rfl | refine ⟨_, _, rfl, rfl, ?_⟩ | refine ⟨_, rfl, ?_⟩ | refine ⟨_, _, rfl, ?_, ?_⟩)) rfl rfl rfl⟩) | (have w0 := ‹bx = false›; have w1 := ‹ba = false›; have w := hS.two (by rw [w0, w1]; rfl) (Int.not_le.1 ‹¬ 0 ≤ fi›); exact ⟨(k + 1, acc ++ [⟨nm, 2⟩]), ⟨hk1, w⟩, by dsimp only; omega, Weak.ren _ [(100, _)] hC rfl (by dsimp only; repeat (first | exact True.intro | refine And.intro ?_ ?_ | exact DLead.same | exact DLead.eqI (by omega) | exact DLead.eqI (by dsimp only; omega) | exact DLead.nil | exact rfl | refine ⟨_, _, rfl, rfl, ?_⟩ | refine ⟨_, rfl, ?_⟩ | refine ⟨_, _, rfl, ?_, ?_⟩)) (by dsimp only; repeat (first | exact True.intro | refine And.intro ?_ ?_ | exact DLead.same | exact DLead.eqI (by omega) | exact DLead.eqI (by dsimp only; omega) | exact DLead.nil | exact rfl | refine ⟨_, _, rfl, rfl, ?_⟩ | refine ⟨_, rfl, ?_⟩ | refine ⟨_, _, rfl, ?_, ?_⟩)) rfl rfl rfl⟩)
          · refine AC.skip ?_
            refine th_n ?_
            refine AC.seq ?_
            refine AC.region ?_
            refine AL.p (by first | exact g_fa_ref rfl rfl rfl rfl rfl rfl | exact g_fa_ptr rfl rfl rfl rfl rfl) rfl ?_
            refine AL.p (by first | exact g_load_ref rfl rfl rfl | exact g_load_ptr rfl rfl rfl rfl rfl | exact g_load_refN rfl rfl rfl rfl | exact g_load_ptrN rfl rfl rfl rfl rfl | exact g_load_arr1 rfl rfl rfl rfl (by assumption) | exact g_load_arr rfl rfl rfl rfl (by first | rfl | omega) (by first | assumption | rfl) (by first | assumption | rfl)) rfl ?_
            refine AL.p (by exact g_build rfl rfl rfl) rfl ?_
            refine AL.q (by exact h_alloc rfl) rfl ?_
            refine AL.q (by first | exact h_store rfl rfl rfl rfl rfl rfl | exact h_store_arr1 rfl rfl rfl rfl (by first | exact .same | exact .nil) (by assumption) | exact h_store_arr rfl rfl rfl rfl (by first | exact .same | exact .nil) (by first | rfl | omega) (by first | assumption | rfl) (by omega)) rfl ?_
            refine AL.nil ?_
            refine th_n ?_
            refine AC.seq ?_
            refine AC.seq ?_
            refine AC.region ?_
            refine AL.p (by first | exact mv1 rfl | exact mv2 rfl | exact mv3 rfl | exact mv4 rfl | exact mv5 rfl | exact mv6 rfl | exact mv7 rfl | exact mv8 rfl | exact mv9 rfl | exact mv10 rfl | exact mv11 rfl) rfl ?_
            refine AL.p (by first | exact g_fa_ref rfl rfl rfl rfl rfl rfl | exact g_fa_ptr rfl rfl rfl rfl rfl) rfl ?_
            refine AL.p (by first | exact g_load_ref rfl rfl rfl | exact g_load_ptr rfl rfl rfl rfl rfl | exact g_load_refN rfl rfl rfl rfl | exact g_load_ptrN rfl rfl rfl rfl rfl | exact g_load_arr1 rfl rfl rfl rfl (by assumption) | exact g_load_arr rfl rfl rfl rfl (by first | rfl | omega) (by first | assumption | rfl) (by first | assumption | rfl)) rfl ?_
            refine AL.q (by exact h_pure en_containsStr rfl rfl (by repeat (first | exact rfl | exact DLead.same | exact DLead.nil | refine ⟨_, _, rfl, ?_, ?_⟩ | refine ⟨_, rfl, ?_⟩)) hX1 rfl) rfl ?_
            refine AL.p (by first | exact mv1 rfl | exact mv2 rfl | exact mv3 rfl | exact mv4 rfl | exact mv5 rfl | exact mv6 rfl | exact mv7 rfl | exact mv8 rfl | exact mv9 rfl | exact mv10 rfl | exact mv11 rfl) rfl ?_
            first | refine AL.caseG rfl rfl (fun h4 => ?_) (fun h4 => ?_) | refine AL.caseGN rfl rfl (fun h4 => ?_) (fun h4 => ?_) | refine AL.caseGB rfl rfl (fun h4 => ?_) (fun h4 => ?_) | refine AL.caseGNB rfl rfl (fun h4 => ?_) (fun h4 => ?_)
            · refine AL.not rfl rfl rfl rfl rfl ?_
              refine AL.not rfl rfl rfl rfl rfl ?_
              refine AL.not rfl rfl rfl rfl rfl ?_
              refine AL.not rfl rfl rfl rfl rfl ?_
              refine AL.p (by first | exact g_pickT (r := .d _) rfl rfl | exact g_pickF (r := .d _) rfl rfl) rfl ?_
              refine AL.nil ?_
              refine th_n ?_
              refine AC.condT rfl ?_
              refine AC.region ?_
              refine AL.p (by first | exact g_fa_ref rfl rfl rfl rfl rfl rfl | exact g_fa_ptr rfl rfl rfl rfl rfl) rfl ?_
              refine AL.q (by first | exact h_store rfl rfl rfl rfl rfl rfl | exact h_store_arr1 rfl rfl rfl rfl (by first | exact .same | exact .nil) (by assumption) | exact h_store_arr rfl rfl rfl rfl (by first | exact .same | exact .nil) (by first | rfl | omega) (by first | assumption | rfl) (by omega)) rfl ?_
              refine AL.nil ?_
              refine th_n ?_
              refine AC.seq ?_
              refine AC.seq ?_
              refine AC.region ?_
              refine AL.p (by first | exact g_fa_ref rfl rfl rfl rfl rfl rfl | exact g_fa_ptr rfl rfl rfl rfl rfl) rfl ?_
              refine AL.p (by first | exact g_load_ref rfl rfl rfl | exact g_load_ptr rfl rfl rfl rfl rfl | exact g_load_refN rfl rfl rfl rfl | exact g_load_ptrN rfl rfl rfl rfl rfl | exact g_load_arr1 rfl rfl rfl rfl (by assumption) | exact g_load_arr rfl rfl rfl rfl (by first | rfl | omega) (by first | assumption | rfl) (by first | assumption | rfl)) rfl ?_
              refine AL.p (by first | exact g_cmp rfl rfl rfl | exact g_scmp rfl rfl rfl | exact g_eqB rfl rfl rfl | exact g_neB rfl rfl rfl) rfl ?_
              refine AL.p (by first | exact mv1 rfl | exact mv2 rfl | exact mv3 rfl | exact mv4 rfl | exact mv5 rfl | exact mv6 rfl | exact mv7 rfl | exact mv8 rfl | exact mv9 rfl | exact mv10 rfl | exact mv11 rfl) rfl ?_
              first | refine AL.caseG rfl rfl (fun h5 => ?_) (fun h5 => ?_) | refine AL.caseGN rfl rfl (fun h5 => ?_) (fun h5 => ?_) | refine AL.caseGB rfl rfl (fun h5 => ?_) (fun h5 => ?_) | refine AL.caseGNB rfl rfl (fun h5 => ?_) (fun h5 => ?_)
              · refine AL.yes rfl rfl rfl ?_
                refine AL.p (by first | exact mv1 rfl | exact mv2 rfl | exact mv3 rfl | exact mv4 rfl | exact mv5 rfl | exact mv6 rfl | exact mv7 rfl | exact mv8 rfl | exact mv9 rfl | exact mv10 rfl | exact mv11 rfl) rfl ?_
                refine AL.yes rfl rfl rfl ?_
                refine AL.p (by first | exact g_fa_ref rfl rfl rfl rfl rfl rfl | exact g_fa_ptr rfl rfl rfl rfl rfl) rfl ?_
                refine AL.yes rfl rfl rfl ?_
                refine AL.p (by first | exact g_load_ref rfl rfl rfl | exact g_load_ptr rfl rfl rfl rfl rfl | exact g_load_refN rfl rfl rfl rfl | exact g_load_ptrN rfl rfl rfl rfl rfl | exact g_load_arr1 rfl rfl rfl rfl (by assumption) | exact g_load_arr rfl rfl rfl rfl (by first | rfl | omega) (by first | assumption | rfl) (by first | assumption | rfl)) rfl ?_
                refine AL.yes rfl rfl rfl ?_
                refine AL.q (by exact h_pure en_containsStr rfl rfl (by repeat (first | exact rfl | exact DLead.same | exact DLead.nil | refine ⟨_, _, rfl, ?_, ?_⟩ | refine ⟨_, rfl, ?_⟩)) hB1 rfl) rfl ?_
                refine AL.p (by first | exact g_pickT (r := .d _) rfl rfl | exact g_pickF (r := .d _) rfl rfl) rfl ?_
                refine AL.nil ?_
                refine th_n ?_
                first | refine AC.condD rfl (fun h6 => ?_) (fun h6 => ?_) | refine AC.condND rfl (fun h6 => ?_) (fun h6 => ?_) | refine AC.condB rfl (fun h6 => ?_) (fun h6 => ?_) | refine AC.condNB rfl (fun h6 => ?_) (fun h6 => ?_)
                · refine AC.seq ?_
                  refine AC.region ?_
                  refine AL.p (by first | exact as1 rfl | exact as2 rfl | exact as3 rfl | exact as4 rfl | exact as5 rfl | exact as6 rfl | exact as7 rfl | exact as8 rfl | exact as9 rfl | exact as10 rfl | exact as11 rfl) rfl ?_
                  refine AL.p (by first | exact as1 rfl | exact as2 rfl | exact as3 rfl | exact as4 rfl | exact as5 rfl | exact as6 rfl | exact as7 rfl | exact as8 rfl | exact as9 rfl | exact as10 rfl | exact as11 rfl) rfl ?_
                  refine AL.nil ?_
                  refine th_n ?_
                  refine AC.weak (t := ⟨77, 2000, [(4, .d (.val (.slice none 0 0))), (5, aT false)], []⟩) (Weak.ren _ [] hC rfl (by repeat (first | exact True.intro | refine And.intro ?_ ?_ | exact DLead.same | exact DLead.eqI (by omega) | exact DLead.eqI (by dsimp only; omega) | exact DLead.nil | exact rfl | refine ⟨_, _, rfl, rfl, ?_⟩ | refine ⟨_, rfl, ?_⟩ | refine ⟨_, _, rfl, ?_, ?_⟩)) (by repeat (first | exact True.intro | refine And.intro ?_ ?_ | exact DLead.same | exact DLead.eqI (by omega) | exact DLead.eqI (by dsimp only; omega) | exact DLead.nil | exact rfl | refine ⟨_, _, rfl, rfl, ?_⟩ | refine ⟨_, rfl, ?_⟩ | refine ⟨_, _, rfl, ?_, ?_⟩)) rfl rfl rfl) ?_
                  refine AC.weak (Weak.nilOwn (i := 4) (e := 43) (sz := 2) rfl (by decide)) ?_
                  refine AC.ret ?_
                  refine th_r ?_
                  refine ib_r ?_
                  refine th_r ?_
                  refine th_r ?_
                  refine ib_r ?_
                  refine th_r ?_
                  refine bq_r ?_
                  first | (exfalso; omega) | (have w0 := ‹bx = true›; have w := hS.no (by rw [w0]; rfl) ‹bb = true›; rw [hR, w]; exact retX [(0, 2000)] rfl ⟨rfl, rfl⟩ (by repeat (first | exact rfl | exact DLead.same | exact DLead.nil | refine ⟨_, _, rfl, ?_, ?_⟩ | refine ⟨_, rfl, ?_⟩)) (by repeat (first | exact True.intro | refine And.intro ?_ ?_ | exact DLead.same | exact DLead.eqI (by omega) | exact DLead.eqI (by dsimp only; omega) | exact DLead.nil | exact rfl | refine ⟨_, _, rfl, rfl, ?_⟩ | refine ⟨_, rfl, ?_⟩ | refine ⟨_, _, rfl, ?_, ?_⟩)) rfl rfl) | (have w0 := ‹ba = true›; have w := hS.no (by rw [w0, Bool.or_true]) ‹bb = true›; rw [hR, w]; exact retX [(0, 2000)] rfl ⟨rfl, rfl⟩ (by repeat (first | exact rfl | exact DLead.same | exact DLead.nil | refine ⟨_, _, rfl, ?_, ?_⟩ | refine ⟨_, rfl, ?_⟩)) (by repeat (first | exact True.intro | refine And.intro ?_ ?_ | exact DLead.same | exact DLead.eqI (by omega) | exact DLead.eqI (by dsimp only; omega) | exact DLead.nil | exact rfl | refine ⟨_, _, rfl, rfl, ?_⟩ | refine ⟨_, rfl, ?_⟩ | refine ⟨_, _, rfl, ?_, ?_⟩)) rfl rfl)
                · refine AC.skip ?_
                  refine th_n ?_
                  refine AC.region ?_
                  refine AL.p (by first | exact mv1 rfl | exact mv2 rfl | exact mv3 rfl | exact mv4 rfl | exact mv5 rfl | exact mv6 rfl | exact mv7 rfl | exact mv8 rfl | exact mv9 rfl | exact mv10 rfl | exact mv11 rfl) rfl ?_
                  refine AL.p (by first | exact g_load_ref rfl rfl rfl | exact g_load_ptr rfl rfl rfl rfl rfl | exact g_load_refN rfl rfl rfl rfl | exact g_load_ptrN rfl rfl rfl rfl rfl | exact g_load_arr1 rfl rfl rfl rfl (by assumption) | exact g_load_arr rfl rfl rfl rfl (by first | rfl | omega) (by first | assumption | rfl) (by first | assumption | rfl)) rfl ?_
                  refine AL.q (by exact h_litF rfl rfl rfl rfl rfl rfl rfl rfl) rfl ?_
                  refine AL.q (by first | exact h_appendSigs acc [⟨nm, 1⟩] (.own rfl rfl (sigsL_len _).symm) (.view rfl) (by rw [List.length_append]; simp only [List.length_cons, List.length_nil]; omega) (by simp) | exact h_appendSigs acc [⟨nm, 2⟩] (.own rfl rfl (sigsL_len _).symm) (.view rfl) (by rw [List.length_append]; simp only [List.length_cons, List.length_nil]; omega) (by simp)) rfl ?_
                  refine AL.p (by first | exact as1 rfl | exact as2 rfl | exact as3 rfl | exact as4 rfl | exact as5 rfl | exact as6 rfl | exact as7 rfl | exact as8 rfl | exact as9 rfl | exact as10 rfl | exact as11 rfl) rfl ?_
                  refine AL.nil ?_
                  refine ib_n ?_
                  refine th_n ?_
                  refine AC.region ?_
                  refine AL.p (by first | exact g_arith rfl rfl rfl (by first | exact wrap_i64 (by omega) | exact wrap_u8 (by omega) | exact wrap_u64 (by omega) | rfl) | exact g_sadd rfl rfl (by first | assumption | omega | (simp only [ByteArray.size_append, bstr_size, List.length_take, List.length_drop, List.length_cons, List.length_nil]; omega))) rfl ?_
                  refine AL.p (by first | exact mv1 rfl | exact mv2 rfl | exact mv3 rfl | exact mv4 rfl | exact mv5 rfl | exact mv6 rfl | exact mv7 rfl | exact mv8 rfl | exact mv9 rfl | exact mv10 rfl | exact mv11 rfl) rfl ?_
                  refine AL.nil ?_
                  refine th_n ?_
                  first | (exfalso; omega) | (have w := hS.same (hgd ‹0 ≤ fi›) (Int.not_lt.2 ‹0 ≤ fi›); exact ⟨(k + 1, acc), ⟨hk1, w⟩, by dsimp only; omega, Weak.ren _ [(100, _)] hC rfl (by dsimp only; repeat (first | exact True.intro | refine And.intro ?_ ?_ | exact DLead.same | exact DLead.eqI (by omega) | exact DLead.eqI (by dsimp only; omega) | exact DLead.nil | exact rfl | refine ⟨_, _, rfl, rfl, ?_⟩ | refine ⟨_, rfl, ?_⟩ | refine ⟨_, _, rfl, ?_, ?_⟩)) (by dsimp only; repeat (first | exact True.intro | refine And.intro ?_ ?_ | exact DLead.same | exact DLead.eqI (by omega) | exact DLead.eqI (by dsimp only; omega) | exact DLead.nil | exact rfl | refine ⟨_, _, rfl, rfl, ?_⟩ | refine ⟨_, rfl, ?_⟩ | refine ⟨_, _, rfl, ?_, ?_⟩)) rfl rfl rfl⟩) | (have w0 := ‹bx = true›; have w := hS.one (by rw [w0]; rfl) ‹bb = false› (Int.not_le.1 ‹¬ 0 ≤ fi›); exact ⟨(k + 1, acc ++ [⟨nm, 1⟩]), ⟨hk1, w⟩, by dsimp only; omega, Weak.ren _ [(100, _)] hC rfl (by dsimp only; repeat (first | exact True.intro | refine And.intro ?_ ?_ | exact DLead.same | exact DLead.eqI (by omega) | exact DLead.eqI (by dsimp only; omega) | exact DLead.nil | exact rfl | refine ⟨_, _, rfl, rfl, ?_⟩ | refine ⟨_, rfl, ?_⟩ | refine ⟨_, _, rfl, ?_, ?_⟩)) (by dsimp only; repeat (first | exact True.intro | refine And.intro ?_ ?_ | exact DLead.same | exact DLead.eqI (by omega) | exact DLead.eqI (by dsimp only; omega) | exact DLead.nil | exact rfl | refine ⟨_, _, rfl, rfl, ?_⟩ | refine ⟨_, rfl, ?_⟩ | refine ⟨_, _, rfl, ?_, ?_⟩)) rfl rfl rfl⟩) | (have w0 := ‹ba = true›; have w := hS.one (by rw [w0, Bool.or_true]) ‹bb = false› (Int.not_le.1 ‹¬ 0 ≤ fi›); exact ⟨(k + 1, acc ++ [⟨nm, 1⟩]), ⟨hk1, w⟩, by dsimp only; omega, Weak.ren _ [(100, _)] hC rfl (by dsimp only; repeat (first | exact True.intro | refine And.intro ?_ ?_ | exact DLead.same | exact DLead.eqI (by omega) | exact DLead.eqI (by dsimp only; omega) | exact DLead.nil | exact rfl | refine ⟨_, _, rfl, rfl, ?_⟩ | refine ⟨_, rfl, ?_⟩ | refine ⟨_, _, rfl, ?_, ?_⟩)) (by dsimp only; repeat (first | exact True.intro | refine And.intro ?_ ?_ | exact DLead.same | exact DLead.eqI (by omega) | exact DLead.eqI (by dsimp only; omega) | exact DLead.nil | exact rfl | refine ⟨_, _, rfl, rfl, ?_⟩ | refine ⟨_, rfl, ?_⟩ | refine ⟨_, _, rfl, ?_, ?_⟩)) rfl rfl rfl⟩) | (have w0 := ‹bx = false›; have w1 := ‹ba = false›; have w := hS.two (by rw [w0, w1]; rfl) (Int.not_le.1 ‹¬ 0 ≤ fi›); exact ⟨(k + 1, acc ++ [⟨nm, 2⟩]), ⟨hk1, w⟩, by dsimp only; omega, Weak.ren _ [(100, _)] hC rfl (by dsimp only; repeat (first | exact True.intro | refine And.intro ?_ ?_ | exact DLead.same | exact DLead.eqI (by omega) | exact DLead.eqI (by dsimp only; omega) | exact DLead.nil | exact rfl | refine ⟨_, _, rfl, rfl, ?_⟩ | refine ⟨_, rfl, ?_⟩ | refine ⟨_, _, rfl, ?_, ?_⟩)) (by dsimp only; repeat (first | exact True.intro | refine And.intro ?_ ?_ | exact DLead.same | exact DLead.eqI (by omega) | exact DLead.eqI (by dsimp only; omega) | exact DLead.nil | exact rfl | refine ⟨_, _, rfl, rfl, ?_⟩ | refine ⟨_, rfl, ?_⟩ | refine ⟨_, _, rfl, ?_, ?_⟩)) rfl rfl rfl⟩)
              · refine AL.not rfl rfl rfl rfl rfl ?_
                refine AL.not rfl rfl rfl rfl rfl ?_
                refine AL.not rfl rfl rfl rfl rfl ?_
                refine AL.not rfl rfl rfl rfl rfl ?_
                refine AL.p (by first | exact g_pickT (r := .d _) rfl rfl | exact g_pickF (r := .d _) rfl rfl) rfl ?_
                refine AL.nil ?_
                refine th_n ?_
                refine AC.condF rfl ?_
                refine AC.skip ?_
                refine th_n ?_
                refine AC.region ?_
                refine AL.p (by first | exact mv1 rfl | exact mv2 rfl | exact mv3 rfl | exact mv4 rfl | exact mv5 rfl | exact mv6 rfl | exact mv7 rfl | exact mv8 rfl | exact mv9 rfl | exact mv10 rfl | exact mv11 rfl) rfl ?_
                refine AL.p (by first | exact g_load_ref rfl rfl rfl | exact g_load_ptr rfl rfl rfl rfl rfl | exact g_load_refN rfl rfl rfl rfl | exact g_load_ptrN rfl rfl rfl rfl rfl | exact g_load_arr1 rfl rfl rfl rfl (by assumption) | exact g_load_arr rfl rfl rfl rfl (by first | rfl | omega) (by first | assumption | rfl) (by first | assumption | rfl)) rfl ?_
                refine AL.q (by exact h_litF rfl rfl rfl rfl rfl rfl rfl rfl) rfl ?_
                refine AL.q (by first | exact h_appendSigs acc [⟨nm, 1⟩] (.own rfl rfl (sigsL_len _).symm) (.view rfl) (by rw [List.length_append]; simp only [List.length_cons, List.length_nil]; omega) (by simp) | exact h_appendSigs acc [⟨nm, 2⟩] (.own rfl rfl (sigsL_len _).symm) (.view rfl) (by rw [List.length_append]; simp only [List.length_cons, List.length_nil]; omega) (by simp)) rfl ?_
                refine AL.p (by first | exact as1 rfl | exact as2 rfl | exact as3 rfl | exact as4 rfl | exact as5 rfl | exact as6 rfl | exact as7 rfl | exact as8 rfl | exact as9 rfl | exact as10 rfl | exact as11 rfl) rfl ?_
                refine AL.nil ?_
                refine ib_n ?_
                refine th_n ?_
                refine AC.region ?_
                refine AL.p (by first | exact g_arith rfl rfl rfl (by first | exact wrap_i64 (by omega) | exact wrap_u8 (by omega) | exact wrap_u64 (by omega) | rfl) | exact g_sadd rfl rfl (by first | assumption | omega | (simp only [ByteArray.size_append, bstr_size, List.length_take, List.length_drop, List.length_cons, List.length_nil]; omega))) rfl ?_
                refine AL.p (by first | exact mv1 rfl | exact mv2 rfl | exact mv3 rfl | exact mv4 rfl | exact mv5 rfl | exact mv6 rfl | exact mv7 rfl | exact mv8 rfl | exact mv9 rfl | exact mv10 rfl | exact mv11 rfl) rfl ?_
                refine AL.nil ?_
                refine th_n ?_
                first | (exfalso; omega) | (have w := hS.same (hgd ‹0 ≤ fi›) (Int.not_lt.2 ‹0 ≤ fi›); exact ⟨(k + 1, acc), ⟨hk1, w⟩, by dsimp only; omega, Weak.ren _ [(100, _)] hC rfl (by dsimp only; repeat (first | exact True.intro | refine And.intro ?_ ?_ | exact DLead.same | exact DLead.eqI (by omega) | exact DLead.eqI (by dsimp only; omega) | exact DLead.nil | exact rfl | refine ⟨_, _, rfl, rfl, ?_⟩ | refine ⟨_, rfl, ?_⟩ | refine ⟨_, _, rfl, ?_, ?_⟩)) (by dsimp only; repeat (first | exact True.intro | refine And.intro ?_ ?_ | exact DLead.same | exact DLead.eqI (by omega) | exact DLead.eqI (by dsimp only; omega) | exact DLead.nil | exact rfl | refine ⟨_, _, rfl, rfl, ?_⟩ | refine ⟨_, rfl, ?_⟩ | refine ⟨_, _, rfl, ?_, ?_⟩)) rfl rfl rfl⟩) | (have w0 := ‹bx = true›; have w := hS.one (by rw [w0]; rfl) ‹bb = false› (Int.not_le.1 ‹¬ 0 ≤ fi›); exact ⟨(k + 1, acc ++ [⟨nm, 1⟩]), ⟨hk1, w⟩, by dsimp only; omega, Weak.ren _ [(100, _)] hC rfl (by dsimp only; repeat (first | exact True.intro | refine And.intro ?_ ?_ | exact DLead.same | exact DLead.eqI (by omega) | exact DLead.eqI (by dsimp only; omega) | exact DLead.nil | exact rfl | refine ⟨_, _, rfl, rfl, ?_⟩ | refine ⟨_, rfl, ?_⟩ | refine ⟨_, _, rfl, ?_, ?_⟩)) (by dsimp only; repeat (first | exact True.intro | refine And.intro ?_ ?_ | exact DLead.same | exact DLead.eqI (by omega) | exact DLead.eqI (by dsimp only; omega) | exact DLead.nil | exact rfl | refine ⟨_, _, rfl, rfl, ?_⟩ | refine ⟨_, rfl, ?_⟩ | refine ⟨_, _, rfl, ?_, ?_⟩)) rfl rfl rfl⟩) | (have w0 := ‹ba = true›; have w := hS.one (by rw [w0, Bool.or_true]) ‹bb = false› (Int.not_le.1 ‹¬ 0 ≤ fi›); exact ⟨(k + 1, acc ++ [⟨nm, 1⟩]), ⟨hk1, w⟩, by dsimp only; omega, Weak.ren _ [(100, _)] hC rfl (by dsimp only; repeat (first | exact True.intro | refine And.intro ?_ ?_ | exact DLead.same | exact DLead.eqI (by omega) | exact DLead.eqI (by dsimp only; omega) | exact DLead.nil | exact rfl | refine ⟨_, _, rfl, rfl, ?_⟩ | refine ⟨_, rfl, ?_⟩ | refine ⟨_, _, rfl, ?_, ?_⟩)) (by dsimp only; repeat (first | exact True.intro | refine And.intro ?_ ?_ | exact DLead.same | exact DLead.eqI (by omega) | exact DLead.eqI (by dsimp only; omega) | exact DLead.nil | exact rfl | refine ⟨_, _, rfl, rfl, ?_⟩ | refine ⟨_, rfl, ?_⟩ | refine ⟨_, _, rfl, ?_, ?_⟩)) rfl rfl rfl⟩) | (have w0 := ‹bx = false›; have w1 := ‹ba = false›; have w := hS.two (by rw [w0, w1]; rfl) (Int.not_le.1 ‹¬ 0 ≤ fi›); exact ⟨(k + 1, acc ++ [⟨nm, 2⟩]), ⟨hk1, w⟩, by dsimp only; omega, Weak.ren _ [(100, _)] hC rfl (by dsimp only; repeat (first | exact True.intro | refine And.intro ?_ ?_ | exact DLead.same | exact DLead.eqI (by omega) | exact DLead.eqI (by dsimp only; omega) | exact DLead.nil | exact rfl | refine ⟨_, _, rfl, rfl, ?_⟩ | refine ⟨_, rfl, ?_⟩ | refine ⟨_, _, rfl, ?_, ?_⟩)) (by dsimp only; repeat (first | exact True.intro | refine And.intro ?_ ?_ | exact DLead.same | exact DLead.eqI (by omega) | exact DLead.eqI (by dsimp only; omega) | exact DLead.nil | exact rfl | refine ⟨_, _, rfl, rfl, ?_⟩ | refine ⟨_, rfl, ?_⟩ | refine ⟨_, _, rfl, ?_, ?_⟩)) rfl rfl rfl⟩)
            · refine AL.yes rfl rfl rfl ?_
              refine AL.p (by first | exact mv1 rfl | exact mv2 rfl | exact mv3 rfl | exact mv4 rfl | exact mv5 rfl | exact mv6 rfl | exact mv7 rfl | exact mv8 rfl | exact mv9 rfl | exact mv10 rfl | exact mv11 rfl) rfl ?_
              refine AL.yes rfl rfl rfl ?_
              refine AL.p (by first | exact g_fa_ref rfl rfl rfl rfl rfl rfl | exact g_fa_ptr rfl rfl rfl rfl rfl) rfl ?_
              refine AL.yes rfl rfl rfl ?_
              refine AL.p (by first | exact g_load_ref rfl rfl rfl | exact g_load_ptr rfl rfl rfl rfl rfl | exact g_load_refN rfl rfl rfl rfl | exact g_load_ptrN rfl rfl rfl rfl rfl | exact g_load_arr1 rfl rfl rfl rfl (by assumption) | exact g_load_arr rfl rfl rfl rfl (by first | rfl | omega) (by first | assumption | rfl) (by first | assumption | rfl)) rfl ?_
              refine AL.yes rfl rfl rfl ?_
              refine AL.q (by exact h_pure en_containsStr rfl rfl (by repeat (first | exact rfl | exact DLead.same | exact DLead.nil | refine ⟨_, _, rfl, ?_, ?_⟩ | refine ⟨_, rfl, ?_⟩)) hA1 rfl) rfl ?_
              refine AL.p (by first | exact g_pickT (r := .d _) rfl rfl | exact g_pickF (r := .d _) rfl rfl) rfl ?_
              refine AL.nil ?_
              refine th_n ?_
              first | refine AC.condD rfl (fun h5 => ?_) (fun h5 => ?_) | refine AC.condND rfl (fun h5 => ?_) (fun h5 => ?_) | refine AC.condB rfl (fun h5 => ?_) (fun h5 => ?_) | refine AC.condNB rfl (fun h5 => ?_) (fun h5 => ?_)
              · refine AC.region ?_
                refine AL.p (by first | exact g_fa_ref rfl rfl rfl rfl rfl rfl | exact g_fa_ptr rfl rfl rfl rfl rfl) rfl ?_
                refine AL.q (by first | exact h_store rfl rfl rfl rfl rfl rfl | exact h_store_arr1 rfl rfl rfl rfl (by first | exact .same | exact .nil) (by assumption) | exact h_store_arr rfl rfl rfl rfl (by first | exact .same | exact .nil) (by first | rfl | omega) (by first | assumption | rfl) (by omega)) rfl ?_
                refine AL.nil ?_
                refine th_n ?_
                refine AC.seq ?_
                refine AC.seq ?_
                refine AC.region ?_
                refine AL.p (by first | exact g_fa_ref rfl rfl rfl rfl rfl rfl | exact g_fa_ptr rfl rfl rfl rfl rfl) rfl ?_
                refine AL.p (by first | exact g_load_ref rfl rfl rfl | exact g_load_ptr rfl rfl rfl rfl rfl | exact g_load_refN rfl rfl rfl rfl | exact g_load_ptrN rfl rfl rfl rfl rfl | exact g_load_arr1 rfl rfl rfl rfl (by assumption) | exact g_load_arr rfl rfl rfl rfl (by first | rfl | omega) (by first | assumption | rfl) (by first | assumption | rfl)) rfl ?_
                refine AL.p (by first | exact g_cmp rfl rfl rfl | exact g_scmp rfl rfl rfl | exact g_eqB rfl rfl rfl | exact g_neB rfl rfl rfl) rfl ?_
                refine AL.p (by first | exact mv1 rfl | exact mv2 rfl | exact mv3 rfl | exact mv4 rfl | exact mv5 rfl | exact mv6 rfl | exact mv7 rfl | exact mv8 rfl | exact mv9 rfl | exact mv10 rfl | exact mv11 rfl) rfl ?_
                first | refine AL.caseG rfl rfl (fun h6 => ?_) (fun h6 => ?_) | refine AL.caseGN rfl rfl (fun h6 => ?_) (fun h6 => ?_) | refine AL.caseGB rfl rfl (fun h6 => ?_) (fun h6 => ?_) | refine AL.caseGNB rfl rfl (fun h6 => ?_) (fun h6 => ?_)
                · refine AL.yes rfl rfl rfl ?_
                  refine AL.p (by first | exact mv1 rfl | exact mv2 rfl | exact mv3 rfl | exact mv4 rfl | exact mv5 rfl | exact mv6 rfl | exact mv7 rfl | exact mv8 rfl | exact mv9 rfl | exact mv10 rfl | exact mv11 rfl) rfl ?_
                  refine AL.yes rfl rfl rfl ?_
                  refine AL.p (by first | exact g_fa_ref rfl rfl rfl rfl rfl rfl | exact g_fa_ptr rfl rfl rfl rfl rfl) rfl ?_
                  refine AL.yes rfl rfl rfl ?_
                  refine AL.p (by first | exact g_load_ref rfl rfl rfl | exact g_load_ptr rfl rfl rfl rfl rfl | exact g_load_refN rfl rfl rfl rfl | exact g_load_ptrN rfl rfl rfl rfl rfl | exact g_load_arr1 rfl rfl rfl rfl (by assumption) | exact g_load_arr rfl rfl rfl rfl (by first | rfl | omega) (by first | assumption | rfl) (by first | assumption | rfl)) rfl ?_
                  refine AL.yes rfl rfl rfl ?_
                  refine AL.q (by exact h_pure en_containsStr rfl rfl (by repeat (first | exact rfl | exact DLead.same | exact DLead.nil | refine ⟨_, _, rfl, ?_, ?_⟩ | refine ⟨_, rfl, ?_⟩)) hB1 rfl) rfl ?_
                  refine AL.p (by first | exact g_pickT (r := .d _) rfl rfl | exact g_pickF (r := .d _) rfl rfl) rfl ?_
                  refine AL.nil ?_
                  refine th_n ?_
                  first | refine AC.condD rfl (fun h7 => ?_) (fun h7 => ?_) | refine AC.condND rfl (fun h7 => ?_) (fun h7 => ?_) | refine AC.condB rfl (fun h7 => ?_) (fun h7 => ?_) | refine AC.condNB rfl (fun h7 => ?_) (fun h7 => ?_)
                  · refine AC.seq ?_
                    refine AC.region ?_
                    refine AL.p (by first | exact as1 rfl | exact as2 rfl | exact as3 rfl | exact as4 rfl | exact as5 rfl | exact as6 rfl | exact as7 rfl | exact as8 rfl | exact as9 rfl | exact as10 rfl | exact as11 rfl) rfl ?_
                    refine AL.p (by first | exact as1 rfl | exact as2 rfl | exact as3 rfl | exact as4 rfl | exact as5 rfl | exact as6 rfl | exact as7 rfl | exact as8 rfl | exact as9 rfl | exact as10 rfl | exact as11 rfl) rfl ?_
                    refine AL.nil ?_
                    refine th_n ?_
                    refine AC.weak (t := ⟨77, 2000, [(4, .d (.val (.slice none 0 0))), (5, aT false)], []⟩) (Weak.ren _ [] hC rfl (by repeat (first | exact True.intro | refine And.intro ?_ ?_ | exact DLead.same | exact DLead.eqI (by omega) | exact DLead.eqI (by dsimp only; omega) | exact DLead.nil | exact rfl | refine ⟨_, _, rfl, rfl, ?_⟩ | refine ⟨_, rfl, ?_⟩ | refine ⟨_, _, rfl, ?_, ?_⟩)) (by repeat (first | exact True.intro | refine And.intro ?_ ?_ | exact DLead.same | exact DLead.eqI (by omega) | exact DLead.eqI (by dsimp only; omega) | exact DLead.nil | exact rfl | refine ⟨_, _, rfl, rfl, ?_⟩ | refine ⟨_, rfl, ?_⟩ | refine ⟨_, _, rfl, ?_, ?_⟩)) rfl rfl rfl) ?_
                    refine AC.weak (Weak.nilOwn (i := 4) (e := 43) (sz := 2) rfl (by decide)) ?_
                    refine AC.ret ?_
                    refine th_r ?_
                    refine ib_r ?_
                    refine th_r ?_
                    refine th_r ?_
                    refine ib_r ?_
                    refine th_r ?_
                    refine bq_r ?_
                    first | (exfalso; omega) | (have w0 := ‹bx = true›; have w := hS.no (by rw [w0]; rfl) ‹bb = true›; rw [hR, w]; exact retX [(0, 2000)] rfl ⟨rfl, rfl⟩ (by repeat (first | exact rfl | exact DLead.same | exact DLead.nil | refine ⟨_, _, rfl, ?_, ?_⟩ | refine ⟨_, rfl, ?_⟩)) (by repeat (first | exact True.intro | refine And.intro ?_ ?_ | exact DLead.same | exact DLead.eqI (by omega) | exact DLead.eqI (by dsimp only; omega) | exact DLead.nil | exact rfl | refine ⟨_, _, rfl, rfl, ?_⟩ | refine ⟨_, rfl, ?_⟩ | refine ⟨_, _, rfl, ?_, ?_⟩)) rfl rfl) | (have w0 := ‹ba = true›; have w := hS.no (by rw [w0, Bool.or_true]) ‹bb = true›; rw [hR, w]; exact retX [(0, 2000)] rfl ⟨rfl, rfl⟩ (by repeat (first | exact rfl | exact DLead.same | exact DLead.nil | refine ⟨_, _, rfl, ?_, ?_⟩ | refine ⟨_, rfl, ?_⟩)) (by repeat (first | exact True.intro | refine And.intro ?_ ?_ | exact DLead.same | exact DLead.eqI (by omega) | exact DLead.eqI (by dsimp only; omega) | exact DLead.nil | exact rfl | refine ⟨_, _, rfl, rfl, ?_⟩ | refine ⟨_, rfl, ?_⟩ | refine ⟨_, _, rfl, ?_, ?_⟩)) rfl rfl)
                  · refine AC.skip ?_
                    refine th_n ?_
                    refine AC.region ?_
                    refine AL.p (by first | exact mv1 rfl | exact mv2 rfl | exact mv3 rfl | exact mv4 rfl | exact mv5 rfl | exact mv6 rfl | exact mv7 rfl | exact mv8 rfl | exact mv9 rfl | exact mv10 rfl | exact mv11 rfl) rfl ?_
                    refine AL.p (by first | exact g_load_ref rfl rfl rfl | exact g_load_ptr rfl rfl rfl rfl rfl | exact g_load_refN rfl rfl rfl rfl | exact g_load_ptrN rfl rfl rfl rfl rfl | exact g_load_arr1 rfl rfl rfl rfl (by assumption) | exact g_load_arr rfl rfl rfl rfl (by first | rfl | omega) (by first | assumption | rfl) (by first | assumption | rfl)) rfl ?_
                    refine AL.q (by exact h_litF rfl rfl rfl rfl rfl rfl rfl rfl) rfl ?_
                    refine AL.q (by first | exact h_appendSigs acc [⟨nm, 1⟩] (.own rfl rfl (sigsL_len _).symm) (.view rfl) (by rw [List.length_append]; simp only [List.length_cons, List.length_nil]; omega) (by simp) | exact h_appendSigs acc [⟨nm, 2⟩] (.own rfl rfl (sigsL_len _).symm) (.view rfl) (by rw [List.length_append]; simp only [List.length_cons, List.length_nil]; omega) (by simp)) rfl ?_
                    refine AL.p (by first | exact as1 rfl | exact as2 rfl | exact as3 rfl | exact as4 rfl | exact as5 rfl | exact as6 rfl | exact as7 rfl | exact as8 rfl | exact as9 rfl | exact as10 rfl | exact as11 rfl) rfl ?_
                    refine AL.nil ?_
                    refine ib_n ?_
                    refine th_n ?_
                    refine AC.region ?_
                    refine AL.p (by first | exact g_arith rfl rfl rfl (by first | exact wrap_i64 (by omega) | exact wrap_u8 (by omega) | exact wrap_u64 (by omega) | rfl) | exact g_sadd rfl rfl (by first | assumption | omega | (simp only [ByteArray.size_append, bstr_size, List.length_take, List.length_drop, List.length_cons, List.length_nil]; omega))) rfl ?_
                    refine AL.p (by first | exact mv1 rfl | exact mv2 rfl | exact mv3 rfl | exact mv4 rfl | exact mv5 rfl | exact mv6 rfl | exact mv7 rfl | exact mv8 rfl | exact mv9 rfl | exact mv10 rfl | exact mv11 rfl) rfl ?_
                    refine AL.nil ?_
                    refine th_n ?_
                    first | (exfalso; omega) | (have w := hS.same (hgd ‹0 ≤ fi›) (Int.not_lt.2 ‹0 ≤ fi›); exact ⟨(k + 1, acc), ⟨hk1, w⟩, by dsimp only; omega, Weak.ren _ [(100, _)] hC rfl (by dsimp only; repeat (first | exact True.intro | refine And.intro ?_ ?_ | exact DLead.same | exact DLead.eqI (by omega) | exact DLead.eqI (by dsimp only; omega) | exact DLead.nil | exact rfl | refine ⟨_, _, rfl, rfl, ?_⟩ | refine ⟨_, rfl, ?_⟩ | refine ⟨_, _, rfl, ?_, ?_⟩)) (by dsimp only; repeat (first | exact True.intro | refine And.intro ?_ ?_ | exact DLead.same | exact DLead.eqI (by omega) | exact DLead.eqI (by dsimp only; omega) | exact DLead.nil | exact rfl | refine ⟨_, _, rfl, rfl, ?_⟩ | refine ⟨_, rfl, ?_⟩ | refine ⟨_, _, rfl, ?_, ?_⟩)) rfl rfl rfl⟩) | (have w0 := ‹bx = true›; have w := hS.one (by rw [w0]; rfl) ‹bb = false› (Int.not_le.1 ‹¬ 0 ≤ fi›); exact ⟨(k + 1, acc ++ [⟨nm, 1⟩]), ⟨hk1, w⟩, by dsimp only; omega, Weak.ren _ [(100, _)] hC rfl (by dsimp only; repeat (first | exact True.intro | refine And.intro ?_ ?_ | exact DLead.same | exact DLead.eqI (by omega) | exact DLead.eqI (by dsimp only; omega) | exact DLead.nil | exact rfl | refine ⟨_, _, rfl, rfl, ?_⟩ | refine ⟨_, rfl, ?_⟩ | refine ⟨_, _, rfl, ?_, ?_⟩)) (by dsimp only; repeat (first | exact True.intro | refine And.intro ?_ ?_ | exact DLead.same | exact DLead.eqI (by omega) | exact DLead.eqI (by dsimp only; omega) | exact DLead.nil | exact rfl | refine ⟨_, _, rfl, rfl, ?_⟩ | refine ⟨_, rfl, ?_⟩ | refine ⟨_, _, rfl, ?_, ?_⟩)) rfl rfl rfl⟩) | (have w0 := ‹ba = true›; have w := hS.one (by rw [w0, Bool.or_true]) ‹bb = false› (Int.not_le.1 ‹¬ 0 ≤ fi›); exact ⟨(k + 1, acc ++ [⟨nm, 1⟩]), ⟨hk1, w⟩, by dsimp only; omega, Weak.ren _ [(100, _)] hC rfl (by dsimp only; repeat (first | exact True.intro | refine And.intro ?_ ?_ | exact DLead.same | exact DLead.eqI (by omega) | exact DLead.eqI (by dsimp only; omega) | exact DLead.nil | exact rfl | refine ⟨_, _, rfl, rfl, ?_⟩ | refine ⟨_, rfl, ?_⟩ | refine ⟨_, _, rfl, ?_, ?_⟩)) (by dsimp only; repeat (first | exact True.intro | refine And.intro ?_ ?_ | exact DLead.same | exact DLead.eqI (by omega) | exact DLead.eqI (by dsimp only; omega) | exact DLead.nil | exact rfl | refine ⟨_, _, rfl, rfl, ?_⟩ | refine ⟨_, rfl, ?_⟩ | refine ⟨_, _, rfl, ?_, ?_⟩)) rfl rfl rfl⟩) | (have w0 := ‹bx = false›; have w1 := ‹ba = false›; have w := hS.two (by rw [w0, w1]; rfl) (Int.not_le.1 ‹¬ 0 ≤ fi›); exact ⟨(k + 1, acc ++ [⟨nm, 2⟩]), ⟨hk1, w⟩, by dsimp only; omega, Weak.ren _ [(100, _)] hC rfl (by dsimp only; repeat (first | exact True.intro | refine And.intro ?_ ?_ | exact DLead.same | exact DLead.eqI (by omega) | exact DLead.eqI (by dsimp only; omega) | exact DLead.nil | exact rfl | refine ⟨_, _, rfl, rfl, ?_⟩ | refine ⟨_, rfl, ?_⟩ | refine ⟨_, _, rfl, ?_, ?_⟩)) (by dsimp only; repeat (first | exact True.intro | refine And.intro ?_ ?_ | exact DLead.same | exact DLead.eqI (by omega) | exact DLead.eqI (by dsimp only; omega) | exact DLead.nil | exact rfl | refine ⟨_, _, rfl, rfl, ?_⟩ | refine ⟨_, rfl, ?_⟩ | refine ⟨_, _, rfl, ?_, ?_⟩)) rfl rfl rfl⟩)
                · refine AL.not rfl rfl rfl rfl rfl ?_
                  refine AL.not rfl rfl rfl rfl rfl ?_
                  refine AL.not rfl rfl rfl rfl rfl ?_
                  refine AL.not rfl rfl rfl rfl rfl ?_
                  refine AL.p (by first | exact g_pickT (r := .d _) rfl rfl | exact g_pickF (r := .d _) rfl rfl) rfl ?_
                  refine AL.nil ?_
                  refine th_n ?_
                  refine AC.condF rfl ?_
                  refine AC.skip ?_
                  refine th_n ?_
                  refine AC.region ?_
                  refine AL.p (by first | exact mv1 rfl | exact mv2 rfl | exact mv3 rfl | exact mv4 rfl | exact mv5 rfl | exact mv6 rfl | exact mv7 rfl | exact mv8 rfl | exact mv9 rfl | exact mv10 rfl | exact mv11 rfl) rfl ?_
                  refine AL.p (by first | exact g_load_ref rfl rfl rfl | exact g_load_ptr rfl rfl rfl rfl rfl | exact g_load_refN rfl rfl rfl rfl | exact g_load_ptrN rfl rfl rfl rfl rfl | exact g_load_arr1 rfl rfl rfl rfl (by assumption) | exact g_load_arr rfl rfl rfl rfl (by first | rfl | omega) (by first | assumption | rfl) (by first | assumption | rfl)) rfl ?_
                  refine AL.q (by exact h_litF rfl rfl rfl rfl rfl rfl rfl rfl) rfl ?_
                  refine AL.q (by first | exact h_appendSigs acc [⟨nm, 1⟩] (.own rfl rfl (sigsL_len _).symm) (.view rfl) (by rw [List.length_append]; simp only [List.length_cons, List.length_nil]; omega) (by simp) | exact h_appendSigs acc [⟨nm, 2⟩] (.own rfl rfl (sigsL_len _).symm) (.view rfl) (by rw [List.length_append]; simp only [List.length_cons, List.length_nil]; omega) (by simp)) rfl ?_
                  refine AL.p (by first | exact as1 rfl | exact as2 rfl | exact as3 rfl | exact as4 rfl | exact as5 rfl | exact as6 rfl | exact as7 rfl | exact as8 rfl | exact as9 rfl | exact as10 rfl | exact as11 rfl) rfl ?_
                  refine AL.nil ?_
                  refine ib_n ?_
                  refine th_n ?_
                  refine AC.region ?_
                  refine AL.p (by first | exact g_arith rfl rfl rfl (by first | exact wrap_i64 (by omega) | exact wrap_u8 (by omega) | exact wrap_u64 (by omega) | rfl) | exact g_sadd rfl rfl (by first | assumption | omega | (simp only [ByteArray.size_append, bstr_size, List.length_take, List.length_drop, List.length_cons, List.length_nil]; omega))) rfl ?_
                  refine AL.p (by first | exact mv1 rfl | exact mv2 rfl | exact mv3 rfl | exact mv4 rfl | exact mv5 rfl | exact mv6 rfl | exact mv7 rfl | exact mv8 rfl | exact mv9 rfl | exact mv10 rfl | exact mv11 rfl) rfl ?_
                  refine AL.nil ?_
                  refine th_n ?_
                  first | (exfalso; omega) | (have w := hS.same (hgd ‹0 ≤ fi›) (Int.not_lt.2 ‹0 ≤ fi›); exact ⟨(k + 1, acc), ⟨hk1, w⟩, by dsimp only; omega, Weak.ren _ [(100, _)] hC rfl (by dsimp only; repeat (first | exact True.intro | refine And.intro ?_ ?_ | exact DLead.same | exact DLead.eqI (by omega) | exact DLead.eqI (by dsimp only; omega) | exact DLead.nil | exact rfl | refine ⟨_, _, rfl, rfl, ?_⟩ | refine ⟨_, rfl, ?_⟩ | refine ⟨_, _, rfl, ?_, ?_⟩)) (by dsimp only; repeat (first | exact True.intro | refine And.intro ?_ ?_ | exact DLead.same | exact DLead.eqI (by omega) | exact DLead.eqI (by dsimp only; omega) | exact DLead.nil | exact rfl | refine ⟨_, _, rfl, rfl, ?_⟩ | refine ⟨_, rfl, ?_⟩ | refine ⟨_, _, rfl, ?_, ?_⟩)) rfl rfl rfl⟩) | (have w0 := ‹bx = true›; have w := hS.one (by rw [w0]; rfl) ‹bb = false› (Int.not_le.1 ‹¬ 0 ≤ fi›); exact ⟨(k + 1, acc ++ [⟨nm, 1⟩]), ⟨hk1, w⟩, by dsimp only; omega, Weak.ren _ [(100, _)] hC rfl (by dsimp only; repeat (first | exact True.intro | refine And.intro ?_ ?_ | exact DLead.same | exact DLead.eqI (by omega) | exact DLead.eqI (by dsimp only; omega) | exact DLead.nil | exact rfl | refine ⟨_, _, rfl, rfl, ?_⟩ | refine ⟨_, rfl, ?_⟩ | refine ⟨_, _, rfl, ?_, ?_⟩)) (by dsimp only; repeat (first | exact True.intro | refine And.intro ?_ ?_ | exact DLead.same | exact DLead.eqI (by omega) | exact DLead.eqI (by dsimp only; omega) | exact DLead.nil | exact rfl | refine ⟨_, _, rfl, rfl, ?_⟩ | refine ⟨_, rfl, ?_⟩ | refine ⟨_, _, rfl, ?_, ?_⟩)) rfl rfl rfl⟩) | (have w0 := ‹ba = true›; have w := hS.one (by rw [w0, Bool.or_true]) ‹bb = false› (Int.not_le.1 ‹¬ 0 ≤ fi›); exact ⟨(k + 1, acc ++ [⟨nm, 1⟩]), ⟨hk1, w⟩, by dsimp only; omega, Weak.ren _ [(100, _)] hC rfl (by dsimp only; repeat (first | exact True.intro | refine And.intro ?_ ?_ | exact DLead.same | exact DLead.eqI (by omega) | exact DLead.eqI (by dsimp only; omega) | exact DLead.nil | exact rfl | refine ⟨_, _, rfl, rfl, ?_⟩ | refine ⟨_, rfl, ?_⟩ | refine ⟨_, _, rfl, ?_, ?_⟩)) (by dsimp only; repeat (first | exact True.intro | refine And.intro ?_ ?_ | exact DLead.same | exact DLead.eqI (by omega) | exact DLead.eqI (by dsimp only; omega) | exact DLead.nil | exact rfl | refine ⟨_, _, rfl, rfl, ?_⟩ | refine ⟨_, rfl, ?_⟩ | refine ⟨_, _, rfl, ?_, ?_⟩)) rfl rfl rfl⟩) | (have w0 := ‹bx = false›; have w1 := ‹ba = false›; have w := hS.two (by rw [w0, w1]; rfl) (Int.not_le.1 ‹¬ 0 ≤ fi›); exact ⟨(k + 1, acc ++ [⟨nm, 2⟩]), ⟨hk1, w⟩, by dsimp only; omega, Weak.ren _ [(100, _)] hC rfl (by dsimp only; repeat (first | exact True.intro | refine And.intro ?_ ?_ | exact DLead.same | exact DLead.eqI (by omega) | exact DLead.eqI (by dsimp only; omega) | exact DLead.nil | exact rfl | refine ⟨_, _, rfl, rfl, ?_⟩ | refine ⟨_, rfl, ?_⟩ | refine ⟨_, _, rfl, ?_, ?_⟩)) (by dsimp only; repeat (first | exact True.intro | refine And.intro ?_ ?_ | exact DLead.same | exact DLead.eqI (by omega) | exact DLead.eqI (by dsimp only; omega) | exact DLead.nil | exact rfl | refine ⟨_, _, rfl, rfl, ?_⟩ | refine ⟨_, rfl, ?_⟩ | refine ⟨_, _, rfl, ?_, ?_⟩)) rfl rfl rfl⟩)
              · refine AC.skip ?_
                refine th_n ?_
                refine AC.seq ?_
                refine AC.seq ?_
                refine AC.region ?_
                refine AL.p (by first | exact g_fa_ref rfl rfl rfl rfl rfl rfl | exact g_fa_ptr rfl rfl rfl rfl rfl) rfl ?_
                refine AL.p (by first | exact g_load_ref rfl rfl rfl | exact g_load_ptr rfl rfl rfl rfl rfl | exact g_load_refN rfl rfl rfl rfl | exact g_load_ptrN rfl rfl rfl rfl rfl | exact g_load_arr1 rfl rfl rfl rfl (by assumption) | exact g_load_arr rfl rfl rfl rfl (by first | rfl | omega) (by first | assumption | rfl) (by first | assumption | rfl)) rfl ?_
                refine AL.p (by first | exact g_cmp rfl rfl rfl | exact g_scmp rfl rfl rfl | exact g_eqB rfl rfl rfl | exact g_neB rfl rfl rfl) rfl ?_
                refine AL.p (by first | exact mv1 rfl | exact mv2 rfl | exact mv3 rfl | exact mv4 rfl | exact mv5 rfl | exact mv6 rfl | exact mv7 rfl | exact mv8 rfl | exact mv9 rfl | exact mv10 rfl | exact mv11 rfl) rfl ?_
                first | refine AL.caseG rfl rfl (fun h6 => ?_) (fun h6 => ?_) | refine AL.caseGN rfl rfl (fun h6 => ?_) (fun h6 => ?_) | refine AL.caseGB rfl rfl (fun h6 => ?_) (fun h6 => ?_) | refine AL.caseGNB rfl rfl (fun h6 => ?_) (fun h6 => ?_)
                · refine AL.yes rfl rfl rfl ?_
                  refine AL.p (by first | exact mv1 rfl | exact mv2 rfl | exact mv3 rfl | exact mv4 rfl | exact mv5 rfl | exact mv6 rfl | exact mv7 rfl | exact mv8 rfl | exact mv9 rfl | exact mv10 rfl | exact mv11 rfl) rfl ?_
                  refine AL.yes rfl rfl rfl ?_
                  refine AL.p (by first | exact g_fa_ref rfl rfl rfl rfl rfl rfl | exact g_fa_ptr rfl rfl rfl rfl rfl) rfl ?_
                  refine AL.yes rfl rfl rfl ?_
                  refine AL.p (by first | exact g_load_ref rfl rfl rfl | exact g_load_ptr rfl rfl rfl rfl rfl | exact g_load_refN rfl rfl rfl rfl | exact g_load_ptrN rfl rfl rfl rfl rfl | exact g_load_arr1 rfl rfl rfl rfl (by assumption) | exact g_load_arr rfl rfl rfl rfl (by first | rfl | omega) (by first | assumption | rfl) (by first | assumption | rfl)) rfl ?_
                  refine AL.yes rfl rfl rfl ?_
                  refine AL.q (by exact h_pure en_containsStr rfl rfl (by repeat (first | exact rfl | exact DLead.same | exact DLead.nil | refine ⟨_, _, rfl, ?_, ?_⟩ | refine ⟨_, rfl, ?_⟩)) hB1 rfl) rfl ?_
                  refine AL.p (by first | exact g_pickT (r := .d _) rfl rfl | exact g_pickF (r := .d _) rfl rfl) rfl ?_
                  refine AL.nil ?_
                  refine th_n ?_
                  first | refine AC.condD rfl (fun h7 => ?_) (fun h7 => ?_) | refine AC.condND rfl (fun h7 => ?_) (fun h7 => ?_) | refine AC.condB rfl (fun h7 => ?_) (fun h7 => ?_) | refine AC.condNB rfl (fun h7 => ?_) (fun h7 => ?_)
                  · refine AC.seq ?_
                    refine AC.region ?_
                    refine AL.p (by first | exact as1 rfl | exact as2 rfl | exact as3 rfl | exact as4 rfl | exact as5 rfl | exact as6 rfl | exact as7 rfl | exact as8 rfl | exact as9 rfl | exact as10 rfl | exact as11 rfl) rfl ?_
                    refine AL.p (by first | exact as1 rfl | exact as2 rfl | exact as3 rfl | exact as4 rfl | exact as5 rfl | exact as6 rfl | exact as7 rfl | exact as8 rfl | exact as9 rfl | exact as10 rfl | exact as11 rfl) rfl ?_
                    refine AL.nil ?_
                    refine th_n ?_
                    refine AC.weak (t := ⟨77, 2000, [(4, .d (.val (.slice none 0 0))), (5, aT false)], []⟩) (Weak.ren _ [] hC rfl (by repeat (first | exact True.intro | refine And.intro ?_ ?_ | exact DLead.same | exact DLead.eqI (by omega) | exact DLead.eqI (by dsimp only; omega) | exact DLead.nil | exact rfl | refine ⟨_, _, rfl, rfl, ?_⟩ | refine ⟨_, rfl, ?_⟩ | refine ⟨_, _, rfl, ?_, ?_⟩)) (by repeat (first | exact True.intro | refine And.intro ?_ ?_ | exact DLead.same | exact DLead.eqI (by omega) | exact DLead.eqI (by dsimp only; omega) | exact DLead.nil | exact rfl | refine ⟨_, _, rfl, rfl, ?_⟩ | refine ⟨_, rfl, ?_⟩ | refine ⟨_, _, rfl, ?_, ?_⟩)) rfl rfl rfl) ?_
                    refine AC.weak (Weak.nilOwn (i := 4) (e := 43) (sz := 2) rfl (by decide)) ?_
                    refine AC.ret ?_
                    refine th_r ?_
                    refine ib_r ?_
                    refine th_r ?_
                    refine th_r ?_
                    refine ib_r ?_
                    refine th_r ?_
                    refine bq_r ?_
                    first | (exfalso; omega) | (have w0 := ‹bx = true›; have w := hS.no (by rw [w0]; rfl) ‹bb = true›; rw [hR, w]; exact retX [(0, 2000)] rfl ⟨rfl, rfl⟩ (by repeat (first | exact rfl | exact DLead.same | exact DLead.nil | refine ⟨_, _, rfl, ?_, ?_⟩ | refine ⟨_, rfl, ?_⟩)) (by repeat (first | exact True.intro | refine And.intro ?_ ?_ | exact DLead.same | exact DLead.eqI (by omega) | exact DLead.eqI (by dsimp only; omega) | exact DLead.nil | exact rfl | refine ⟨_, _, rfl, rfl, ?_⟩ | refine ⟨_, rfl, ?_⟩ | refine ⟨_, _, rfl, ?_, ?_⟩)) rfl rfl) | (have w0 := ‹ba = true›; have w := hS.no (by rw [w0, Bool.or_true]) ‹bb = true›; rw [hR, w]; exact retX [(0, 2000)] rfl ⟨rfl, rfl⟩ (by repeat (first | exact rfl | exact DLead.same | exact DLead.nil | refine ⟨_, _, rfl, ?_, ?_⟩ | refine ⟨_, rfl, ?_⟩)) (by repeat (first | exact True.intro | refine And.intro ?_ ?_ | exact DLead.same | exact DLead.eqI (by omega) | exact DLead.eqI (by dsimp only; omega) | exact DLead.nil | exact rfl | refine ⟨_, _, rfl, rfl, ?_⟩ | refine ⟨_, rfl, ?_⟩ | refine ⟨_, _, rfl, ?_, ?_⟩)) rfl rfl)
                  · refine AC.skip ?_
                    refine th_n ?_
                    refine AC.region ?_
                    refine AL.p (by first | exact mv1 rfl | exact mv2 rfl | exact mv3 rfl | exact mv4 rfl | exact mv5 rfl | exact mv6 rfl | exact mv7 rfl | exact mv8 rfl | exact mv9 rfl | exact mv10 rfl | exact mv11 rfl) rfl ?_
                    refine AL.p (by first | exact g_load_ref rfl rfl rfl | exact g_load_ptr rfl rfl rfl rfl rfl | exact g_load_refN rfl rfl rfl rfl | exact g_load_ptrN rfl rfl rfl rfl rfl | exact g_load_arr1 rfl rfl rfl rfl (by assumption) | exact g_load_arr rfl rfl rfl rfl (by first | rfl | omega) (by first | assumption | rfl) (by first | assumption | rfl)) rfl ?_
                    refine AL.q (by exact h_litF rfl rfl rfl rfl rfl rfl rfl rfl) rfl ?_
                    refine AL.q (by first | exact h_appendSigs acc [⟨nm, 1⟩] (.own rfl rfl (sigsL_len _).symm) (.view rfl) (by rw [List.length_append]; simp only [List.length_cons, List.length_nil]; omega) (by simp) | exact h_appendSigs acc [⟨nm, 2⟩] (.own rfl rfl (sigsL_len _).symm) (.view rfl) (by rw [List.length_append]; simp only [List.length_cons, List.length_nil]; omega) (by simp)) rfl ?_
                    refine AL.p (by first | exact as1 rfl | exact as2 rfl | exact as3 rfl | exact as4 rfl | exact as5 rfl | exact as6 rfl | exact as7 rfl | exact as8 rfl | exact as9 rfl | exact as10 rfl | exact as11 rfl) rfl ?_
                    refine AL.nil ?_
                    refine ib_n ?_
                    refine th_n ?_
                    refine AC.region ?_
                    refine AL.p (by first | exact g_arith rfl rfl rfl (by first | exact wrap_i64 (by omega) | exact wrap_u8 (by omega) | exact wrap_u64 (by omega) | rfl) | exact g_sadd rfl rfl (by first | assumption | omega | (simp only [ByteArray.size_append, bstr_size, List.length_take, List.length_drop, List.length_cons, List.length_nil]; omega))) rfl ?_
                    refine AL.p (by first | exact mv1 rfl | exact mv2 rfl | exact mv3 rfl | exact mv4 rfl | exact mv5 rfl | exact mv6 rfl | exact mv7 rfl | exact mv8 rfl | exact mv9 rfl | exact mv10 rfl | exact mv11 rfl) rfl ?_
                    refine AL.nil ?_
                    refine th_n ?_
                    first | (exfalso; omega) | (have w := hS.same (hgd ‹0 ≤ fi›) (Int.not_lt.2 ‹0 ≤ fi›); exact ⟨(k + 1, acc), ⟨hk1, w⟩, by dsimp only; omega, Weak.ren _ [(100, _)] hC rfl (by dsimp only; repeat (first | exact True.intro | refine And.intro ?_ ?_ | exact DLead.same | exact DLead.eqI (by omega) | exact DLead.eqI (by dsimp only; omega) | exact DLead.nil | exact rfl | refine ⟨_, _, rfl, rfl, ?_⟩ | refine ⟨_, rfl, ?_⟩ | refine ⟨_, _, rfl, ?_, ?_⟩)) (by dsimp only; repeat (first | exact True.intro | refine And.intro ?_ ?_ | exact DLead.same | exact DLead.eqI (by omega) | exact DLead.eqI (by dsimp only; omega) | exact DLead.nil | exact rfl | refine ⟨_, _, rfl, rfl, ?_⟩ | refine ⟨_, rfl, ?_⟩ | refine ⟨_, _, rfl, ?_, ?_⟩)) rfl rfl rfl⟩) | (have w0 := ‹bx = true›; have w := hS.one (by rw [w0]; rfl) ‹bb = false› (Int.not_le.1 ‹¬ 0 ≤ fi›); exact ⟨(k + 1, acc ++ [⟨nm, 1⟩]), ⟨hk1, w⟩, by dsimp only; omega, Weak.ren _ [(100, _)] hC rfl (by dsimp only; repeat (first | exact True.intro | refine And.intro ?_ ?_ | exact DLead.same | exact DLead.eqI (by omega) | exact DLead.eqI (by dsimp only; omega) | exact DLead.nil | exact rfl | refine ⟨_, _, rfl, rfl, ?_⟩ | refine ⟨_, rfl, ?_⟩ | refine ⟨_, _, rfl, ?_, ?_⟩)) (by dsimp only; repeat (first | exact True.intro | refine And.intro ?_ ?_ | exact DLead.same | exact DLead.eqI (by omega) | exact DLead.eqI (by dsimp only; omega) | exact DLead.nil | exact rfl | refine ⟨_, _, rfl, rfl, ?_⟩ | refine ⟨_, rfl, ?_⟩ | refine ⟨_, _, rfl, ?_, ?_⟩)) rfl rfl rfl⟩) | (have w0 := ‹ba = true›; have w := hS.one (by rw [w0, Bool.or_true]) ‹bb = false› (Int.not_le.1 ‹¬ 0 ≤ fi›); exact ⟨(k + 1, acc ++ [⟨nm, 1⟩]), ⟨hk1, w⟩, by dsimp only; omega, Weak.ren _ [(100, _)] hC rfl (by dsimp only; repeat (first | exact True.intro | refine And.intro ?_ ?_ | exact DLead.same | exact DLead.eqI (by omega) | exact DLead.eqI (by dsimp only; omega) | exact DLead.nil | exact rfl | refine ⟨_, _, rfl, rfl, ?_⟩ | refine ⟨_, rfl, ?_⟩ | refine ⟨_, _, rfl, ?_, ?_⟩)) (by dsimp only; repeat (first | exact True.intro | refine And.intro ?_ ?_ | exact DLead.same | exact DLead.eqI (by omega) | exact DLead.eqI (by dsimp only; omega) | exact DLead.nil | exact rfl | refine ⟨_, _, rfl, rfl, ?_⟩ | refine ⟨_, rfl, ?_⟩ | refine ⟨_, _, rfl, ?_, ?_⟩)) rfl rfl rfl⟩) | (have w0 := ‹bx = false›; have w1 := ‹ba = false›; have w := hS.two (by rw [w0, w1]; rfl) (Int.not_le.1 ‹¬ 0 ≤ fi›); exact ⟨(k + 1, acc ++ [⟨nm, 2⟩]), ⟨hk1, w⟩, by dsimp only; omega, Weak.ren _ [(100, _)] hC rfl (by dsimp only; repeat (first | exact True.intro | refine And.intro ?_ ?_ | exact DLead.same | exact DLead.eqI (by omega) | exact DLead.eqI (by dsimp only; omega) | exact DLead.nil | exact rfl | refine ⟨_, _, rfl, rfl, ?_⟩ | refine ⟨_, rfl, ?_⟩ | refine ⟨_, _, rfl, ?_, ?_⟩)) (by dsimp only; repeat (first | exact True.intro | refine And.intro ?_ ?_ | exact DLead.same | exact DLead.eqI (by omega) | exact DLead.eqI (by dsimp only; omega) | exact DLead.nil | exact rfl | refine ⟨_, _, rfl, rfl, ?_⟩ | refine ⟨_, rfl, ?_⟩ | refine ⟨_, _, rfl, ?_, ?_⟩)) rfl rfl rfl⟩)
                · refine AL.not rfl rfl rfl rfl rfl ?_
                  refine AL.not rfl rfl rfl rfl rfl ?_
                  refine AL.not rfl rfl rfl rfl rfl ?_
                  refine AL.not rfl rfl rfl rfl rfl ?_
                  refine AL.p (by first | exact g_pickT (r := .d _) rfl rfl | exact g_pickF (r := .d _) rfl rfl) rfl ?_
                  refine AL.nil ?_
                  refine th_n ?_
                  refine AC.condF rfl ?_
                  refine AC.skip ?_
                  refine th_n ?_
                  refine AC.region ?_
                  refine AL.p (by first | exact mv1 rfl | exact mv2 rfl | exact mv3 rfl | exact mv4 rfl | exact mv5 rfl | exact mv6 rfl | exact mv7 rfl | exact mv8 rfl | exact mv9 rfl | exact mv10 rfl | exact mv11 rfl) rfl ?_
                  refine AL.p (by first | exact g_load_ref rfl rfl rfl | exact g_load_ptr rfl rfl rfl rfl rfl | exact g_load_refN rfl rfl rfl rfl | exact g_load_ptrN rfl rfl rfl rfl rfl | exact g_load_arr1 rfl rfl rfl rfl (by assumption) | exact g_load_arr rfl rfl rfl rfl (by first | rfl | omega) (by first | assumption | rfl) (by first | assumption | rfl)) rfl ?_
                  refine AL.q (by exact h_litF rfl rfl rfl rfl rfl rfl rfl rfl) rfl ?_
                  refine AL.q (by first | exact h_appendSigs acc [⟨nm, 1⟩] (.own rfl rfl (sigsL_len _).symm) (.view rfl) (by rw [List.length_append]; simp only [List.length_cons, List.length_nil]; omega) (by simp) | exact h_appendSigs acc [⟨nm, 2⟩] (.own rfl rfl (sigsL_len _).symm) (.view rfl) (by rw [List.length_append]; simp only [List.length_cons, List.length_nil]; omega) (by simp)) rfl ?_
                  refine AL.p (by first | exact as1 rfl | exact as2 rfl | exact as3 rfl | exact as4 rfl | exact as5 rfl | exact as6 rfl | exact as7 rfl | exact as8 rfl | exact as9 rfl | exact as10 rfl | exact as11 rfl) rfl ?_
                  refine AL.nil ?_
                  refine ib_n ?_
                  refine th_n ?_
                  refine AC.region ?_
                  refine AL.p (by first | exact g_arith rfl rfl rfl (by first | exact wrap_i64 (by omega) | exact wrap_u8 (by omega) | exact wrap_u64 (by omega) | rfl) | exact g_sadd rfl rfl (by first | assumption | omega | (simp only [ByteArray.size_append, bstr_size, List.length_take, List.length_drop, List.length_cons, List.length_nil]; omega))) rfl ?_
                  refine AL.p (by first | exact mv1 rfl | exact mv2 rfl | exact mv3 rfl | exact mv4 rfl | exact mv5 rfl | exact mv6 rfl | exact mv7 rfl | exact mv8 rfl | exact mv9 rfl | exact mv10 rfl | exact mv11 rfl) rfl ?_
                  refine AL.nil ?_
                  refine th_n ?_
                  first | (exfalso; omega) | (have w := hS.same (hgd ‹0 ≤ fi›) (Int.not_lt.2 ‹0 ≤ fi›); exact ⟨(k + 1, acc), ⟨hk1, w⟩, by dsimp only; omega, Weak.ren _ [(100, _)] hC rfl (by dsimp only; repeat (first | exact True.intro | refine And.intro ?_ ?_ | exact DLead.same | exact DLead.eqI (by omega) | exact DLead.eqI (by dsimp only; omega) | exact DLead.nil | exact rfl | refine ⟨_, _, rfl, rfl, ?_⟩ | refine ⟨_, rfl, ?_⟩ | refine ⟨_, _, rfl, ?_, ?_⟩)) (by dsimp only; repeat (first | exact True.intro | refine And.intro ?_ ?_ | exact DLead.same | exact DLead.eqI (by omega) | exact DLead.eqI (by dsimp only; omega) | exact DLead.nil | exact rfl | refine ⟨_, _, rfl, rfl, ?_⟩ | refine ⟨_, rfl, ?_⟩ | refine ⟨_, _, rfl, ?_, ?_⟩)) rfl rfl rfl⟩) | (have w0 := ‹bx = true›; have w := hS.one (by rw [w0]; rfl) ‹bb = false› (Int.not_le.1 ‹¬ 0 ≤ fi›); exact ⟨(k + 1, acc ++ [⟨nm, 1⟩]), ⟨hk1, w⟩, by dsimp only; omega, Weak.ren _ [(100, _)] hC rfl (by dsimp only; repeat (first | exact True.intro | refine And.intro ?_ ?_ | exact DLead.same | exact DLead.eqI (by omega) | exact DLead.eqI (by dsimp only; omega) | exact DLead.nil | exact rfl | refine ⟨_, _, rfl, rfl, ?_⟩ | refine ⟨_, rfl, ?_⟩ | refine ⟨_, _, rfl, ?_, ?_⟩)) (by dsimp only; repeat (first | exact True.intro | refine And.intro ?_ ?_ | exact DLead.same | exact DLead.eqI (by omega) | exact DLead.eqI (by dsimp only; omega) | exact DLead.nil | exact rfl | refine ⟨_, _, rfl, rfl, ?_⟩ | refine ⟨_, rfl, ?_⟩ | refine ⟨_, _, rfl, ?_, ?_⟩)) rfl rfl rfl⟩) | (have w0 := ‹ba = true›; have w := hS.one (by rw [w0, Bool.or_true]) ‹bb = false› (Int.not_le.1 ‹¬ 0 ≤ fi›); exact ⟨(k + 1, acc ++ [⟨nm, 1⟩]), ⟨hk1, w⟩, by dsimp only; omega, Weak.ren _ [(100, _)] hC rfl (by dsimp only; repeat (first | exact True.intro | refine And.intro ?_ ?_ | exact DLead.same | exact DLead.eqI (by omega) | exact DLead.eqI (by dsimp only; omega) | exact DLead.nil | exact rfl | refine ⟨_, _, rfl, rfl, ?_⟩ | refine ⟨_, rfl, ?_⟩ | refine ⟨_, _, rfl, ?_, ?_⟩)) (by dsimp only; repeat (first | exact True.intro | refine And.intro ?_ ?_ | exact DLead.same | exact DLead.eqI (by omega) | exact DLead.eqI (by dsimp only; omega) | exact DLead.nil | exact rfl | refine ⟨_, _, rfl, rfl, ?_⟩ | refine ⟨_, rfl, ?_⟩ | refine ⟨_, _, rfl, ?_, ?_⟩)) rfl rfl rfl⟩) | (have w0 := ‹bx = false›; have w1 := ‹ba = false›; have w := hS.two (by rw [w0, w1]; rfl) (Int.not_le.1 ‹¬ 0 ≤ fi›); exact ⟨(k + 1, acc ++ [⟨nm, 2⟩]), ⟨hk1, w⟩, by dsimp only; omega, Weak.ren _ [(100, _)] hC rfl (by dsimp only; repeat (first | exact True.intro | refine And.intro ?_ ?_ | exact DLead.same | exact DLead.eqI (by omega) | exact DLead.eqI (by dsimp only; omega) | exact DLead.nil | exact rfl | refine ⟨_, _, rfl, rfl, ?_⟩ | refine ⟨_, rfl, ?_⟩ | refine ⟨_, _, rfl, ?_, ?_⟩)) (by dsimp only; repeat (first | exact True.intro | refine And.intro ?_ ?_ | exact DLead.same | exact DLead.eqI (by omega) | exact DLead.eqI (by dsimp only; omega) | exact DLead.nil | exact rfl | refine ⟨_, _, rfl, rfl, ?_⟩ | refine ⟨_, rfl, ?_⟩ | refine ⟨_, _, rfl, ?_, ?_⟩)) rfl rfl rfl⟩)
        · refine AC.exit ?_
          refine th_e ?_
          refine th_e ?_
          refine ib_y ?_
          refine th_n ?_
          refine AC.seq ?_
          refine AC.seq ?_
          dsimp only at hk hacc
          obtain rfl : k = PP.length := by omega
          have hal : acc.length ≤ 800 := by have h1 := sgL_len hacc; rw [List.length_map] at hN; omega
          rw [show (PP.map (·.1)).take PP.length = PP.map (·.1) from List.take_of_length_le (by rw [List.length_map]; exact Nat.le_refl _)] at hacc
          have hR2 : psR m X = psFin (some acc) := by rw [hR, hacc]
          refine AC.region ?_
          refine AL.p (by first | exact mv1 rfl | exact mv2 rfl | exact mv3 rfl | exact mv4 rfl | exact mv5 rfl | exact mv6 rfl | exact mv7 rfl | exact mv8 rfl | exact mv9 rfl | exact mv10 rfl | exact mv11 rfl) rfl ?_
          refine AL.p (by first | exact g_len_view rfl rfl (by first | exact List.length_map _ | rfl) | exact g_len_str rfl rfl rfl | exact g_len_nil rfl rfl | exact g_len_own (sz := 1) (els := []) (e' := 0) rfl rfl (by simp only [maxLen]; omega) | exact g_len_tight rfl rfl (by first | exact List.length_map _ | rfl)) rfl ?_
          refine AL.p (by first | exact g_cmp rfl rfl rfl | exact g_scmp rfl rfl rfl | exact g_eqB rfl rfl rfl | exact g_neB rfl rfl rfl) rfl ?_
          refine AL.nil ?_
          refine th_n ?_
          first | refine AC.condD rfl (fun h3 => ?_) (fun h3 => ?_) | refine AC.condND rfl (fun h3 => ?_) (fun h3 => ?_) | refine AC.condB rfl (fun h3 => ?_) (fun h3 => ?_) | refine AC.condNB rfl (fun h3 => ?_) (fun h3 => ?_)
          · refine AC.seq ?_
            refine AC.region ?_
            refine AL.p (by first | exact as1 rfl | exact as2 rfl | exact as3 rfl | exact as4 rfl | exact as5 rfl | exact as6 rfl | exact as7 rfl | exact as8 rfl | exact as9 rfl | exact as10 rfl | exact as11 rfl) rfl ?_
            refine AL.p (by first | exact as1 rfl | exact as2 rfl | exact as3 rfl | exact as4 rfl | exact as5 rfl | exact as6 rfl | exact as7 rfl | exact as8 rfl | exact as9 rfl | exact as10 rfl | exact as11 rfl) rfl ?_
            refine AL.nil ?_
            refine th_n ?_
            refine AC.weak (t := ⟨77, 2000, [(4, .d (.val (.slice none 0 0))), (5, aT false)], []⟩) (Weak.ren _ [] hC rfl (by repeat (first | exact True.intro | refine And.intro ?_ ?_ | exact DLead.same | exact DLead.eqI (by omega) | exact DLead.eqI (by dsimp only; omega) | exact DLead.nil | exact rfl | refine ⟨_, _, rfl, rfl, ?_⟩ | refine ⟨_, rfl, ?_⟩ | refine ⟨_, _, rfl, ?_, ?_⟩)) (by repeat (first | exact True.intro | refine And.intro ?_ ?_ | exact DLead.same | exact DLead.eqI (by omega) | exact DLead.eqI (by dsimp only; omega) | exact DLead.nil | exact rfl | refine ⟨_, _, rfl, rfl, ?_⟩ | refine ⟨_, rfl, ?_⟩ | refine ⟨_, _, rfl, ?_, ?_⟩)) rfl rfl rfl) ?_
            refine AC.weak (Weak.nilOwn (i := 4) (e := 43) (sz := 2) rfl (by decide)) ?_
            refine AC.ret ?_
            refine th_r ?_
            refine bq_r ?_
            rw [hR2, psFin_long ‹_›]
            exact retX [(0, 2000)] rfl ⟨rfl, rfl⟩ (by repeat (first | exact rfl | exact DLead.same | exact DLead.nil | refine ⟨_, _, rfl, ?_, ?_⟩ | refine ⟨_, rfl, ?_⟩)) (by repeat (first | exact True.intro | refine And.intro ?_ ?_ | exact DLead.same | exact DLead.eqI (by omega) | exact DLead.eqI (by dsimp only; omega) | exact DLead.nil | exact rfl | refine ⟨_, _, rfl, rfl, ?_⟩ | refine ⟨_, rfl, ?_⟩ | refine ⟨_, _, rfl, ?_, ?_⟩)) rfl rfl
          · refine AC.skip ?_
            refine th_n ?_
            refine AC.seq ?_
            refine AC.region ?_
            refine AL.p (by first | exact mv1 rfl | exact mv2 rfl | exact mv3 rfl | exact mv4 rfl | exact mv5 rfl | exact mv6 rfl | exact mv7 rfl | exact mv8 rfl | exact mv9 rfl | exact mv10 rfl | exact mv11 rfl) rfl ?_
            refine AL.p (by first | exact as1 rfl | exact as2 rfl | exact as3 rfl | exact as4 rfl | exact as5 rfl | exact as6 rfl | exact as7 rfl | exact as8 rfl | exact as9 rfl | exact as10 rfl | exact as11 rfl) rfl ?_
            refine AL.p (by first | exact as1 rfl | exact as2 rfl | exact as3 rfl | exact as4 rfl | exact as5 rfl | exact as6 rfl | exact as7 rfl | exact as8 rfl | exact as9 rfl | exact as10 rfl | exact as11 rfl) rfl ?_
            refine AL.nil ?_
            refine th_n ?_
            refine AC.ret ?_
            refine bq_r ?_
            rw [hR2, psFin_short ‹_›]
            exact retX [(0, 100)] rfl ⟨rfl, rfl⟩ (by repeat (first | exact rfl | exact DLead.same | exact DLead.nil | refine ⟨_, _, rfl, ?_, ?_⟩ | refine ⟨_, rfl, ?_⟩)) (by repeat (first | exact True.intro | refine And.intro ?_ ?_ | exact DLead.same | exact DLead.eqI (by omega) | exact DLead.eqI (by dsimp only; omega) | exact DLead.nil | exact rfl | refine ⟨_, _, rfl, rfl, ?_⟩ | refine ⟨_, rfl, ?_⟩ | refine ⟨_, _, rfl, ?_, ?_⟩)) rfl rfl
theorem en_iProcSigs : Enters Try.prog 7 := enters_of Try.func7 rfl rfl
end Go.Proofs.Ytkfpoagjlaldgaa

set_option linter.all false
set_option maxRecDepth 20000
namespace Go.Proofs.Ytkfpoagjlaldgaa
open Go.RowKit

/-- A row of elements filled from the left. -/
def fillR (R : List (List DV)) (z : List DV) (k : Nat) : List (List DV) := R.take k ++ List.replicate (R.length - k) z
theorem fill_zero (R : List (List DV)) (z : List DV) : fillR R z 0 = List.replicate R.length z := rfl
theorem fill_all (R : List (List DV)) (z : List DV) : fillR R z R.length = R := by unfold fillR; rw [List.take_length, Nat.sub_self]; exact List.append_nil _
theorem fill_len (R : List (List DV)) (z : List DV) {k : Nat} (h : k ≤ R.length) : (fillR R z k).length = R.length := by unfold fillR; rw [List.length_append, List.length_take, List.length_replicate]; omega
theorem fill_get {R : List (List DV)} {z : List DV} {k : Nat} (h : k < R.length) : (fillR R z k)[k]? = some z := by
  unfold fillR
  rw [List.getElem?_append_right (by rw [List.length_take]; omega), List.length_take, List.getElem?_replicate, if_pos (by omega)]
theorem fill_set {R : List (List DV)} {z r : List DV} {k : Nat} (h : k < R.length) (hr : R[k]? = some r) : (fillR R z k).set k r = fillR R z (k + 1) := by
  have hr' : R[k] = r := (List.getElem?_eq_some_iff.1 hr).2
  refine List.ext_getElem? fun i => ?_
  rw [List.getElem?_set]
  unfold fillR
  by_cases h1 : k = i
  · subst h1
    rw [if_pos rfl, if_pos (by rw [List.length_append, List.length_take, List.length_replicate]; omega), List.getElem?_append_left (by rw [List.length_take]; omega), List.getElem?_take, if_pos (by omega), hr]
  · rw [if_neg h1]
    by_cases h2 : i < k
    · rw [List.getElem?_append_left (by rw [List.length_take]; omega), List.getElem?_append_left (by rw [List.length_take]; omega), List.getElem?_take, List.getElem?_take, if_pos h2, if_pos (by omega)]
    · rw [List.getElem?_append_right (by rw [List.length_take]; omega), List.getElem?_append_right (by rw [List.length_take]; omega), List.length_take, List.length_take, List.getElem?_replicate, List.getElem?_replicate]
      by_cases h3 : i < R.length
      · rw [if_pos (by omega), if_pos (by omega)]
      · rw [if_neg (by omega), if_neg (by omega)]

structure Cond where
  place : Int
  by_ : Int
  deriving DecidableEq
abbrev condD (c : Cond) : List DV := [dI c.place, dI c.by_]
end Go.Proofs.Ytkfpoagjlaldgaa

set_option linter.all false
set_option maxRecDepth 20000
namespace Go.Proofs.Ytkfpoagjlaldgaa
open Go.RowKit

section
variable {P : Program} [PT P] {s : ASt} {dst : Option Nat} {ty : Nat} {pos : String} {af : Array Edge} {gd : Option (Nat × Bool)} {x y : Operand} {xt yt : Nat}
theorem g_neIr {k : IntKind} {a b : Int} (hx : s.ev x = .d (.val (.int k a))) (hy : s.ev y = .d (.val (.int k b))) (h : a = b) : GOp P [] s ⟨dst, .binOp .neq xt x y yt, ty, pos, af, gd⟩ (aT false) := g_cmp hx hy (by show some (!decide (a = b)) = _; rw [decide_eq_true h]; rfl)
theorem g_neSr {a b : ByteArray} (hx : s.ev x = aS a) (hy : s.ev y = aS b) (h : a = b) : GOp P [] s ⟨dst, .binOp .neq xt x y yt, ty, pos, af, gd⟩ (aT false) := g_scmp hx hy (by show some (!decide (a = b)) = _; rw [decide_eq_true h]; rfl)
end
end Go.Proofs.Ytkfpoagjlaldgaa

set_option linter.all false
set_option maxRecDepth 20000
namespace Go.Proofs.Ytkfpoagjlaldgaa
open Go.RowKit

theorem eqSig_dec (a b : Sig) : decide (a = b) = (decide (a.name = b.name) && decide (a.kind = b.kind)) := by
  cases a; cases b
  simp only [Sig.mk.injEq, Bool.decide_and]
set_option maxHeartbeats 1000000 in
theorem eqSig_spec (a b : Sig)  : ASpec Try.prog 20 [sigA a, sigA b] [] (Pure1 (aT (decide (a = b)))) := by
  rw [eqSig_dec]
  refine ASpec.of Try.func20 rfl rfl fun C hC => ?_
  refine AC.seq ?_
  refine AC.region ?_
  refine AL.q (by exact h_boxF rfl rfl) rfl ?_
  refine AL.q (by exact h_boxF rfl rfl) rfl ?_
  refine AL.p (by first | exact as1 rfl | exact as2 rfl | exact as3 rfl | exact as4 rfl | exact as5 rfl | exact as6 rfl | exact as7 rfl | exact as8 rfl | exact as9 rfl | exact as10 rfl | exact as11 rfl) rfl ?_
  refine AL.nil ?_
  refine th_n ?_
  refine AC.seq ?_
  refine AC.seq ?_
  refine AC.region ?_
  refine AL.p (by first | exact g_fa_ref rfl rfl rfl rfl rfl rfl | exact g_fa_ptr rfl rfl rfl rfl rfl) rfl ?_
  refine AL.p (by first | exact g_load_ref rfl rfl rfl | exact g_load_ptr rfl rfl rfl rfl rfl | exact g_load_refN rfl rfl rfl rfl | exact g_load_ptrN rfl rfl rfl rfl rfl | exact g_load_arr1 rfl rfl rfl rfl (by assumption) | exact g_load_arr rfl rfl rfl rfl (by first | rfl | omega) (by first | assumption | rfl) (by first | assumption | rfl)) rfl ?_
  refine AL.p (by first | exact g_fa_ref rfl rfl rfl rfl rfl rfl | exact g_fa_ptr rfl rfl rfl rfl rfl) rfl ?_
  refine AL.p (by first | exact g_load_ref rfl rfl rfl | exact g_load_ptr rfl rfl rfl rfl rfl | exact g_load_refN rfl rfl rfl rfl | exact g_load_ptrN rfl rfl rfl rfl rfl | exact g_load_arr1 rfl rfl rfl rfl (by assumption) | exact g_load_arr rfl rfl rfl rfl (by first | rfl | omega) (by first | assumption | rfl) (by first | assumption | rfl)) rfl ?_
  refine AL.p (by first | exact g_cmp rfl rfl rfl | exact g_scmp rfl rfl rfl | exact g_eqB rfl rfl rfl | exact g_neB rfl rfl rfl) rfl ?_
  refine AL.nil ?_
  refine th_n ?_
  first | refine AC.condD rfl (fun h0 => ?_) (fun h0 => ?_) | refine AC.condND rfl (fun h0 => ?_) (fun h0 => ?_) | refine AC.condB rfl (fun h0 => ?_) (fun h0 => ?_) | refine AC.condNB rfl (fun h0 => ?_) (fun h0 => ?_)
  · refine AC.seq ?_
    refine AC.region ?_
    refine AL.p (by first | exact as1 rfl | exact as2 rfl | exact as3 rfl | exact as4 rfl | exact as5 rfl | exact as6 rfl | exact as7 rfl | exact as8 rfl | exact as9 rfl | exact as10 rfl | exact as11 rfl) rfl ?_
    refine AL.nil ?_
    refine th_n ?_
    refine AC.ret ?_
    refine th_r ?_
    refine bq_r ?_
    exact ret1 rfl (by simp_all [bstr_iff])
  · refine AC.skip ?_
    refine th_n ?_
    refine AC.seq ?_
    refine AC.seq ?_
    refine AC.region ?_
    refine AL.p (by first | exact g_fa_ref rfl rfl rfl rfl rfl rfl | exact g_fa_ptr rfl rfl rfl rfl rfl) rfl ?_
    refine AL.p (by first | exact g_load_ref rfl rfl rfl | exact g_load_ptr rfl rfl rfl rfl rfl | exact g_load_refN rfl rfl rfl rfl | exact g_load_ptrN rfl rfl rfl rfl rfl | exact g_load_arr1 rfl rfl rfl rfl (by assumption) | exact g_load_arr rfl rfl rfl rfl (by first | rfl | omega) (by first | assumption | rfl) (by first | assumption | rfl)) rfl ?_
    refine AL.p (by first | exact g_fa_ref rfl rfl rfl rfl rfl rfl | exact g_fa_ptr rfl rfl rfl rfl rfl) rfl ?_
    refine AL.p (by first | exact g_load_ref rfl rfl rfl | exact g_load_ptr rfl rfl rfl rfl rfl | exact g_load_refN rfl rfl rfl rfl | exact g_load_ptrN rfl rfl rfl rfl rfl | exact g_load_arr1 rfl rfl rfl rfl (by assumption) | exact g_load_arr rfl rfl rfl rfl (by first | rfl | omega) (by first | assumption | rfl) (by first | assumption | rfl)) rfl ?_
    refine AL.p (by first | exact g_cmp rfl rfl rfl | exact g_scmp rfl rfl rfl | exact g_eqB rfl rfl rfl | exact g_neB rfl rfl rfl) rfl ?_
    refine AL.nil ?_
    refine th_n ?_
    first | refine AC.condD rfl (fun h1 => ?_) (fun h1 => ?_) | refine AC.condND rfl (fun h1 => ?_) (fun h1 => ?_) | refine AC.condB rfl (fun h1 => ?_) (fun h1 => ?_) | refine AC.condNB rfl (fun h1 => ?_) (fun h1 => ?_)
    · refine AC.seq ?_
      refine AC.region ?_
      refine AL.p (by first | exact as1 rfl | exact as2 rfl | exact as3 rfl | exact as4 rfl | exact as5 rfl | exact as6 rfl | exact as7 rfl | exact as8 rfl | exact as9 rfl | exact as10 rfl | exact as11 rfl) rfl ?_
      refine AL.nil ?_
      refine th_n ?_
      refine AC.ret ?_
      refine th_r ?_
      refine bq_r ?_
      exact ret1 rfl (by simp_all [bstr_iff])
    · refine AC.skip ?_
      refine th_n ?_
      refine AC.seq ?_
      refine AC.region ?_
      refine AL.p (by first | exact as1 rfl | exact as2 rfl | exact as3 rfl | exact as4 rfl | exact as5 rfl | exact as6 rfl | exact as7 rfl | exact as8 rfl | exact as9 rfl | exact as10 rfl | exact as11 rfl) rfl ?_
      refine AL.nil ?_
      refine th_n ?_
      refine AC.ret ?_
      refine bq_r ?_
      exact ret1 rfl (by simp_all [bstr_iff])
theorem en_eqSig : Enters Try.prog 20 := enters_of Try.func20 rfl rfl
set_option maxHeartbeats 1000000 in
theorem eqSigS_spec (a b : List Sig) (ha : a.length ≤ 1048576) (hb : b.length ≤ 1048576)  : ASpec Try.prog 8 [.d (vSigs a), .d (vSigs b)] [] (Pure1 (aT (decide (a = b)))) := by
  refine ASpec.of Try.func8 rfl rfl fun C hC => ?_
  refine AC.seq ?_
  refine AC.region ?_
  refine AL.p (by first | exact as1 rfl | exact as2 rfl | exact as3 rfl | exact as4 rfl | exact as5 rfl | exact as6 rfl | exact as7 rfl | exact as8 rfl | exact as9 rfl | exact as10 rfl | exact as11 rfl) rfl ?_
  refine AL.nil ?_
  refine th_n ?_
  refine AC.seq ?_
  refine AC.seq ?_
  refine AC.region ?_
  refine AL.p (by first | exact mv1 rfl | exact mv2 rfl | exact mv3 rfl | exact mv4 rfl | exact mv5 rfl | exact mv6 rfl | exact mv7 rfl | exact mv8 rfl | exact mv9 rfl | exact mv10 rfl | exact mv11 rfl) rfl ?_
  refine AL.p (by first | exact g_len_view rfl rfl (by first | exact List.length_map _ | rfl) | exact g_len_str rfl rfl rfl | exact g_len_nil rfl rfl | exact g_len_own (sz := 1) (els := []) (e' := 0) rfl rfl (by simp only [maxLen]; omega) | exact g_len_tight rfl rfl (by first | exact List.length_map _ | rfl)) rfl ?_
  refine AL.p (by first | exact mv1 rfl | exact mv2 rfl | exact mv3 rfl | exact mv4 rfl | exact mv5 rfl | exact mv6 rfl | exact mv7 rfl | exact mv8 rfl | exact mv9 rfl | exact mv10 rfl | exact mv11 rfl) rfl ?_
  refine AL.p (by first | exact g_len_view rfl rfl (by first | exact List.length_map _ | rfl) | exact g_len_str rfl rfl rfl | exact g_len_nil rfl rfl | exact g_len_own (sz := 1) (els := []) (e' := 0) rfl rfl (by simp only [maxLen]; omega) | exact g_len_tight rfl rfl (by first | exact List.length_map _ | rfl)) rfl ?_
  refine AL.p (by first | exact g_cmp rfl rfl rfl | exact g_scmp rfl rfl rfl | exact g_eqB rfl rfl rfl | exact g_neB rfl rfl rfl) rfl ?_
  refine AL.nil ?_
  refine th_n ?_
  first | refine AC.condD rfl (fun h0 => ?_) (fun h0 => ?_) | refine AC.condND rfl (fun h0 => ?_) (fun h0 => ?_) | refine AC.condB rfl (fun h0 => ?_) (fun h0 => ?_) | refine AC.condNB rfl (fun h0 => ?_) (fun h0 => ?_)
  · refine AC.seq ?_
    refine AC.region ?_
    refine AL.p (by first | exact as1 rfl | exact as2 rfl | exact as3 rfl | exact as4 rfl | exact as5 rfl | exact as6 rfl | exact as7 rfl | exact as8 rfl | exact as9 rfl | exact as10 rfl | exact as11 rfl) rfl ?_
    refine AL.nil ?_
    refine th_n ?_
    refine AC.ret ?_
    refine th_r ?_
    refine bq_r ?_
    have hne : a ≠ b := fun e => h0 (by rw [e])
    exact ret1 rfl (by rw [decide_eq_false hne])
  · refine AC.skip ?_
    refine th_n ?_
    refine AC.seq ?_
    refine AC.seq ?_
    refine AC.region ?_
    refine AL.p (by first | exact as1 rfl | exact as2 rfl | exact as3 rfl | exact as4 rfl | exact as5 rfl | exact as6 rfl | exact as7 rfl | exact as8 rfl | exact as9 rfl | exact as10 rfl | exact as11 rfl) rfl ?_
    refine AL.nil ?_
    refine th_n ?_
    refine AC.block ?_
    refine AC.loop (ι := Nat) (fun k => ⟨27, 0, [(0, .d (vSigs a)), (1, .d (vSigs b)), (5, aI k)], []⟩) (fun k => k ≤ a.length ∧ ∀ j (h1 : j < a.length) (h2 : j < b.length), j < k → a[j] = b[j]) (fun k => a.length - k) (0) ?_ (⟨Nat.zero_le _, fun j _ _ hj => by omega⟩) ?_
    · refine Weak.ren _ [] hC rfl ?_ ?_ rfl rfl rfl <;> repeat (first | exact True.intro | refine And.intro ?_ ?_ | exact DLead.same | exact DLead.eqI (by omega) | exact DLead.eqI (by dsimp only; omega) | exact DLead.nil | exact rfl)
    · intro k ⟨hk, hall⟩
      refine AC.seq ?_
      refine AC.seq ?_
      refine AC.region ?_
      refine AL.p (by first | exact mv1 rfl | exact mv2 rfl | exact mv3 rfl | exact mv4 rfl | exact mv5 rfl | exact mv6 rfl | exact mv7 rfl | exact mv8 rfl | exact mv9 rfl | exact mv10 rfl | exact mv11 rfl) rfl ?_
      refine AL.p (by first | exact mv1 rfl | exact mv2 rfl | exact mv3 rfl | exact mv4 rfl | exact mv5 rfl | exact mv6 rfl | exact mv7 rfl | exact mv8 rfl | exact mv9 rfl | exact mv10 rfl | exact mv11 rfl) rfl ?_
      refine AL.p (by first | exact g_len_view rfl rfl (by first | exact List.length_map _ | rfl) | exact g_len_str rfl rfl rfl | exact g_len_nil rfl rfl | exact g_len_own (sz := 1) (els := []) (e' := 0) rfl rfl (by simp only [maxLen]; omega) | exact g_len_tight rfl rfl (by first | exact List.length_map _ | rfl)) rfl ?_
      refine AL.p (by first | exact g_cmp rfl rfl rfl | exact g_scmp rfl rfl rfl | exact g_eqB rfl rfl rfl | exact g_neB rfl rfl rfl) rfl ?_
      refine AL.nil ?_
      refine th_n ?_
      first | refine AC.condD rfl (fun h1 => ?_) (fun h1 => ?_) | refine AC.condND rfl (fun h1 => ?_) (fun h1 => ?_) | refine AC.condB rfl (fun h1 => ?_) (fun h1 => ?_) | refine AC.condNB rfl (fun h1 => ?_) (fun h1 => ?_)
      · refine AC.skip ?_
        refine th_n ?_
        refine AC.seq ?_
        refine AC.block ?_
        refine AC.seq ?_
        have hk1 : k < a.length := by omega
        have hk2 : k < b.length := by omega
        have hgeta := sigsL_get hk1
        have hgetb := sigsL_get hk2
        refine AC.drawn' mixed_ok [[], [], [0,1], [0,1,2], [], [], [4,5], [4,5,6], [0,1,2,3,4,5,6,7], [0,1,2,3,4,5,6,7,8]] (by decide) ?_
        refine DF.op 0 [] 10 rfl rfl rfl (.free rfl (NOp.of (by first | exact mv1 rfl | exact mv2 rfl | exact mv3 rfl | exact mv4 rfl | exact mv5 rfl | exact mv6 rfl | exact mv7 rfl | exact mv8 rfl | exact mv9 rfl | exact mv10 rfl | exact mv11 rfl))) rfl ?_
        refine DF.op 1 [] 10 rfl rfl rfl (.free rfl (NOp.of (by first | exact mv1 rfl | exact mv2 rfl | exact mv3 rfl | exact mv4 rfl | exact mv5 rfl | exact mv6 rfl | exact mv7 rfl | exact mv8 rfl | exact mv9 rfl | exact mv10 rfl | exact mv11 rfl))) rfl ?_
        refine DF.op 2 [0,1] 10 rfl rfl rfl (.free rfl (NOp.of (by first | exact g_ia_view rfl rfl rfl rfl rfl (by first | rfl | assumption) (by first | assumption | rfl) | exact g_ia_own rfl rfl rfl rfl rfl (by first | rfl | assumption) (by omega) (by first | exact Nat.mul_one _ | rfl | omega)))) rfl ?_
        refine DF.op 3 [0,1,2] 10 rfl rfl rfl (.free rfl (NOp.of (by first | exact g_load_ref rfl rfl rfl | exact g_load_ptr rfl rfl rfl rfl rfl | exact g_load_refN rfl rfl rfl rfl | exact g_load_ptrN rfl rfl rfl rfl rfl | exact g_load_arr1 rfl rfl rfl rfl (by assumption) | exact g_load_arr rfl rfl rfl rfl (by first | rfl | omega) (by first | assumption | rfl) (by first | assumption | rfl)))) rfl ?_
        refine DF.op 4 [] 10 rfl rfl rfl (.free rfl (NOp.of (by first | exact mv1 rfl | exact mv2 rfl | exact mv3 rfl | exact mv4 rfl | exact mv5 rfl | exact mv6 rfl | exact mv7 rfl | exact mv8 rfl | exact mv9 rfl | exact mv10 rfl | exact mv11 rfl))) rfl ?_
        refine DF.op 5 [] 10 rfl rfl rfl (.free rfl (NOp.of (by first | exact mv1 rfl | exact mv2 rfl | exact mv3 rfl | exact mv4 rfl | exact mv5 rfl | exact mv6 rfl | exact mv7 rfl | exact mv8 rfl | exact mv9 rfl | exact mv10 rfl | exact mv11 rfl))) rfl ?_
        refine DF.op 6 [4,5] 10 rfl rfl rfl (.free rfl (NOp.of (by first | exact g_ia_view rfl rfl rfl rfl rfl (by first | rfl | assumption) (by first | assumption | rfl) | exact g_ia_own rfl rfl rfl rfl rfl (by first | rfl | assumption) (by omega) (by first | exact Nat.mul_one _ | rfl | omega)))) rfl ?_
        refine DF.op 7 [4,5,6] 10 rfl rfl rfl (.free rfl (NOp.of (by first | exact g_load_ref rfl rfl rfl | exact g_load_ptr rfl rfl rfl rfl rfl | exact g_load_refN rfl rfl rfl rfl | exact g_load_ptrN rfl rfl rfl rfl rfl | exact g_load_arr1 rfl rfl rfl rfl (by assumption) | exact g_load_arr rfl rfl rfl rfl (by first | rfl | omega) (by first | assumption | rfl) (by first | assumption | rfl)))) rfl ?_
        refine DF.op 8 [0,1,2,3,4,5,6,7] 10 rfl rfl rfl (.free rfl (by exact h_pure en_eqSig rfl rfl (by repeat (first | exact rfl | exact DLead.same | exact DLead.nil | refine ⟨_, _, rfl, ?_, ?_⟩ | refine ⟨_, rfl, ?_⟩ | exact ⟨_, rfl, rfl⟩)) (eqSig_spec _ _) rfl)) rfl ?_
        refine DF.op 9 [0,1,2,3,4,5,6,7,8] 10 rfl rfl rfl (.free rfl (NOp.of (by first | exact g_not rfl | exact g_neg rfl (by first | exact wrap_i64 (by omega) | exact wrap_u8 (by omega) | exact wrap_u64 (by omega) | rfl)))) rfl ?_
        refine DF.fin (ps := [(0, 1), (0, 4), (0, 5), (0, 6), (0, 7), (1, 0), (1, 4), (1, 5), (1, 6), (1, 7), (2, 4), (2, 5), (2, 6), (2, 7), (3, 4), (3, 5), (3, 6), (3, 7), (4, 0), (4, 1), (4, 2), (4, 3), (4, 5), (5, 0), (5, 1), (5, 2), (5, 3), (5, 4), (6, 0), (6, 1), (6, 2), (6, 3), (7, 0), (7, 1), (7, 2), (7, 3)]) 10 rfl (by decide +kernel) (by decide +kernel) (by rfl) ?_
        refine th_n ?_
        first | refine AC.condD rfl (fun h2 => ?_) (fun h2 => ?_) | refine AC.condND rfl (fun h2 => ?_) (fun h2 => ?_) | refine AC.condB rfl (fun h2 => ?_) (fun h2 => ?_) | refine AC.condNB rfl (fun h2 => ?_) (fun h2 => ?_)
        · refine AC.seq ?_
          refine AC.region ?_
          refine AL.p (by first | exact as1 rfl | exact as2 rfl | exact as3 rfl | exact as4 rfl | exact as5 rfl | exact as6 rfl | exact as7 rfl | exact as8 rfl | exact as9 rfl | exact as10 rfl | exact as11 rfl) rfl ?_
          refine AL.nil ?_
          refine th_n ?_
          refine AC.ret ?_
          refine ib_r ?_
          refine th_r ?_
          refine th_r ?_
          refine ib_r ?_
          refine th_r ?_
          refine bq_r ?_
          have hne : a ≠ b := fun e => by subst e; simp at h2
          exact ret1 rfl (by rw [decide_eq_false hne])
        · refine AC.skip ?_
          refine ib_n ?_
          refine th_n ?_
          refine AC.region ?_
          refine AL.p (by first | exact mv1 rfl | exact mv2 rfl | exact mv3 rfl | exact mv4 rfl | exact mv5 rfl | exact mv6 rfl | exact mv7 rfl | exact mv8 rfl | exact mv9 rfl | exact mv10 rfl | exact mv11 rfl) rfl ?_
          refine AL.p (by first | exact g_arith rfl rfl rfl (by first | exact wrap_i64 (by omega) | exact wrap_u8 (by omega) | exact wrap_u64 (by omega) | rfl) | exact g_sadd rfl rfl (by first | assumption | omega | (simp only [ByteArray.size_append, bstr_size, List.length_take, List.length_drop, List.length_cons, List.length_nil]; omega))) rfl ?_
          refine AL.p (by first | exact as1 rfl | exact as2 rfl | exact as3 rfl | exact as4 rfl | exact as5 rfl | exact as6 rfl | exact as7 rfl | exact as8 rfl | exact as9 rfl | exact as10 rfl | exact as11 rfl) rfl ?_
          refine AL.nil ?_
          refine th_n ?_
          have hkk : a[k] = b[k] := by simpa using h2
          exact ⟨k + 1, ⟨by omega, fun j h1 h2 hj => by rcases Nat.lt_succ_iff_lt_or_eq.1 hj with h | rfl; exact hall j h1 h2 h; exact hkk⟩, by omega, Weak.ren _ [] hC rfl (by repeat (first | exact True.intro | refine And.intro ?_ ?_ | exact DLead.same | exact DLead.eqI (by omega) | exact DLead.eqI (by dsimp only; omega) | exact DLead.nil | exact rfl)) (by repeat (first | exact True.intro | refine And.intro ?_ ?_ | exact DLead.same | exact DLead.eqI (by omega) | exact DLead.eqI (by dsimp only; omega) | exact DLead.nil | exact rfl | refine ⟨_, _, rfl, rfl, ?_⟩ | refine ⟨_, rfl, ?_⟩ | refine ⟨_, _, rfl, ?_, ?_⟩)) rfl rfl rfl⟩
      · refine AC.exit ?_
        refine th_e ?_
        refine th_e ?_
        refine ib_y ?_
        refine th_n ?_
        refine AC.seq ?_
        refine AC.region ?_
        refine AL.p (by first | exact as1 rfl | exact as2 rfl | exact as3 rfl | exact as4 rfl | exact as5 rfl | exact as6 rfl | exact as7 rfl | exact as8 rfl | exact as9 rfl | exact as10 rfl | exact as11 rfl) rfl ?_
        refine AL.nil ?_
        refine th_n ?_
        refine AC.ret ?_
        refine bq_r ?_
        have he : a = b := List.ext_getElem (by omega) (fun j h1 h2 => hall j h1 h2 (by omega))
        exact ret1 rfl (by rw [decide_eq_true he])
theorem en_eqSigS : Enters Try.prog 8 := enters_of Try.func8 rfl rfl
/-- A number's digits, and the text that stands for it. -/
def dgs : Nat → Nat → List UInt8 → List UInt8
  | 0, _, acc => acc
  | f + 1, k, acc => if k = 0 then acc else dgs f (k / 10) (UInt8.ofNat (48 + k % 10) :: acc)
def mtx (k : Int) : List UInt8 := if k ≤ 0 then [109, 48] else 109 :: dgs k.toNat k.toNat []
theorem dgs_zero (f : Nat) (acc : List UInt8) : dgs f 0 acc = acc := by cases f <;> simp [dgs]
theorem dgs_step {f k : Nat} (hf : k ≤ f) (hk : 0 < k) (acc : List UInt8) : dgs (f - 1) (k / 10) (UInt8.ofNat (48 + k % 10) :: acc) = dgs f k acc := by
  obtain ⟨g, rfl⟩ : ∃ g, f = g + 1 := ⟨f - 1, by omega⟩
  rw [Nat.add_sub_cancel]
  conv => rhs; unfold dgs
  rw [if_neg (by omega)]
set_option maxHeartbeats 2000000 in
theorem markText_spec (k : Int) (hk : k ≤ 1073741824) : ASpec Try.prog 21 [aI k] [] (Pure1 (aS (bstr (mtx k)))) := by
  refine ASpec.of Try.func21 rfl rfl fun C hC => ?_
  refine AC.seq ?_
  refine AC.region ?_
  refine AL.p (by first | exact as1 rfl | exact as2 rfl | exact as3 rfl | exact as4 rfl | exact as5 rfl | exact as6 rfl | exact as7 rfl | exact as8 rfl | exact as9 rfl | exact as10 rfl | exact as11 rfl) rfl ?_
  refine AL.nil ?_
  refine th_n ?_
  refine AC.seq ?_
  refine AC.seq ?_
  refine AC.region ?_
  refine AL.p (by first | exact mv1 rfl | exact mv2 rfl | exact mv3 rfl | exact mv4 rfl | exact mv5 rfl | exact mv6 rfl | exact mv7 rfl | exact mv8 rfl | exact mv9 rfl | exact mv10 rfl | exact mv11 rfl) rfl ?_
  refine AL.p (by first | exact g_cmp rfl rfl rfl | exact g_scmp rfl rfl rfl | exact g_eqB rfl rfl rfl | exact g_neB rfl rfl rfl) rfl ?_
  refine AL.nil ?_
  refine th_n ?_
  first | refine AC.condD rfl (fun h0 => ?_) (fun h0 => ?_) | refine AC.condND rfl (fun h0 => ?_) (fun h0 => ?_) | refine AC.condB rfl (fun h0 => ?_) (fun h0 => ?_) | refine AC.condNB rfl (fun h0 => ?_) (fun h0 => ?_)
  · refine AC.seq ?_
    refine AC.region ?_
    refine AL.p (by first | exact as1 rfl | exact as2 rfl | exact as3 rfl | exact as4 rfl | exact as5 rfl | exact as6 rfl | exact as7 rfl | exact as8 rfl | exact as9 rfl | exact as10 rfl | exact as11 rfl) rfl ?_
    refine AL.nil ?_
    refine th_n ?_
    refine AC.ret ?_
    refine th_r ?_
    refine bq_r ?_
    exact ret1 rfl (by rw [mtx, if_pos h0]; rfl)
  · refine AC.skip ?_
    refine th_n ?_
    refine AC.seq ?_
    obtain ⟨n, rfl⟩ : ∃ n : Nat, k = n := ⟨k.toNat, by omega⟩
    refine AC.region ?_
    refine AL.p (by first | exact as1 rfl | exact as2 rfl | exact as3 rfl | exact as4 rfl | exact as5 rfl | exact as6 rfl | exact as7 rfl | exact as8 rfl | exact as9 rfl | exact as10 rfl | exact as11 rfl) rfl ?_
    refine AL.nil ?_
    refine th_n ?_
    refine AC.seq ?_
    refine AC.block ?_
    refine AC.loop (ι := Nat × Nat × List UInt8) (fun x => ⟨20, 0, [(0, aI x.2.1), (3, aS (bstr x.2.2))], []⟩) (fun x => x.2.1 ≤ x.1 ∧ dgs x.1 x.2.1 x.2.2 = dgs n n [] ∧ x.2.2.length + x.2.1 ≤ n) (fun x => x.2.1) ((n, n, [])) ?_ (⟨Nat.le_refl _, rfl, by show 0 + n ≤ n; omega⟩) ?_
    · refine Weak.ren _ [] hC rfl ?_ ?_ rfl rfl rfl <;> repeat (first | exact True.intro | refine And.intro ?_ ?_ | exact DLead.same | exact DLead.eqI (by omega) | exact DLead.eqI (by dsimp only; omega) | exact DLead.nil | exact rfl)
    · rintro ⟨f, q, acc⟩ ⟨hf, hd, hl⟩
      dsimp only at hf hd hl ⊢
      refine AC.seq ?_
      refine AC.seq ?_
      refine AC.region ?_
      refine AL.p (by first | exact mv1 rfl | exact mv2 rfl | exact mv3 rfl | exact mv4 rfl | exact mv5 rfl | exact mv6 rfl | exact mv7 rfl | exact mv8 rfl | exact mv9 rfl | exact mv10 rfl | exact mv11 rfl) rfl ?_
      refine AL.p (by first | exact g_cmp rfl rfl rfl | exact g_scmp rfl rfl rfl | exact g_eqB rfl rfl rfl | exact g_neB rfl rfl rfl) rfl ?_
      refine AL.nil ?_
      refine th_n ?_
      first | refine AC.condD rfl (fun h1 => ?_) (fun h1 => ?_) | refine AC.condND rfl (fun h1 => ?_) (fun h1 => ?_) | refine AC.condB rfl (fun h1 => ?_) (fun h1 => ?_) | refine AC.condNB rfl (fun h1 => ?_) (fun h1 => ?_)
      · refine AC.skip ?_
        refine th_n ?_
        refine AC.block ?_
        refine AC.seq ?_
        have hq : 0 < q := by omega
        have hsz := bstr_size acc
        have hst := dgs_step hf hq acc
        have hrm : ((q : Nat) : Int).tmod 10 = ((q % 10 : Nat) : Int) := by rw [Int.tmod_eq_emod_of_nonneg (by omega)]; omega
        have hqo : ((q : Nat) : Int).tdiv 10 = ((q / 10 : Nat) : Int) := by rw [Int.tdiv_eq_ediv_of_nonneg (by omega)]; omega
        have hu8 : ((UInt8.ofNat (48 + q % 10)).toNat : Int) = 48 + ((q % 10 : Nat) : Int) := by rw [UInt8.toNat_ofNat']; have : q % 10 < 10 := Nat.mod_lt _ (by omega); omega
        refine AC.region ?_
        refine AL.p (by first | exact mv1 rfl | exact mv2 rfl | exact mv3 rfl | exact mv4 rfl | exact mv5 rfl | exact mv6 rfl | exact mv7 rfl | exact mv8 rfl | exact mv9 rfl | exact mv10 rfl | exact mv11 rfl) rfl ?_
        refine AL.p (by exact g_rem rfl rfl (by decide) hrm) rfl ?_
        refine AL.p (by exact g_arith (e := 48 + ((q % 10 : Nat) : Int)) rfl rfl rfl (wrap_i64 (by omega))) rfl ?_
        refine AL.p (by exact g_convI (c := 48 + ((q % 10 : Nat) : Int)) rfl rfl rfl (wrap_u8 (by omega))) rfl ?_
        refine AL.q (by exact h_lit rfl rfl rfl rfl rfl rfl rfl rfl) rfl ?_
        refine AL.p (by exact g_strOfBytes (l := [UInt8.ofNat (48 + q % 10)]) rfl rfl rfl rfl rfl (by show _ = [[DV.val (.int .u8 ((UInt8.ofNat (48 + q % 10)).toNat : Int))]]; rw [hu8]) rfl) rfl ?_
        refine AL.p (by first | exact mv1 rfl | exact mv2 rfl | exact mv3 rfl | exact mv4 rfl | exact mv5 rfl | exact mv6 rfl | exact mv7 rfl | exact mv8 rfl | exact mv9 rfl | exact mv10 rfl | exact mv11 rfl) rfl ?_
        refine AL.p (by first | exact g_arith rfl rfl rfl (by first | exact wrap_i64 (by omega) | exact wrap_u8 (by omega) | exact wrap_u64 (by omega) | rfl) | exact g_sadd rfl rfl (by first | assumption | omega | (simp only [ByteArray.size_append, bstr_size, List.length_take, List.length_drop, List.length_cons, List.length_nil]; omega))) rfl ?_
        refine AL.p (by first | exact as1 rfl | exact as2 rfl | exact as3 rfl | exact as4 rfl | exact as5 rfl | exact as6 rfl | exact as7 rfl | exact as8 rfl | exact as9 rfl | exact as10 rfl | exact as11 rfl) rfl ?_
        refine AL.nil ?_
        refine th_n ?_
        refine AC.region ?_
        refine AL.p (by first | exact mv1 rfl | exact mv2 rfl | exact mv3 rfl | exact mv4 rfl | exact mv5 rfl | exact mv6 rfl | exact mv7 rfl | exact mv8 rfl | exact mv9 rfl | exact mv10 rfl | exact mv11 rfl) rfl ?_
        refine AL.p (by exact g_quo (c := ((q / 10 : Nat) : Int)) rfl rfl (by decide) (by rw [hqo]; exact wrap_i64 (by omega))) rfl ?_
        refine AL.p (by first | exact as1 rfl | exact as2 rfl | exact as3 rfl | exact as4 rfl | exact as5 rfl | exact as6 rfl | exact as7 rfl | exact as8 rfl | exact as9 rfl | exact as10 rfl | exact as11 rfl) rfl ?_
        refine AL.nil ?_
        refine ib_n ?_
        refine th_n ?_
        exact ⟨(f - 1, q / 10, UInt8.ofNat (48 + q % 10) :: acc), ⟨by show q / 10 ≤ f - 1; omega, hst.trans hd, by show acc.length + 1 + q / 10 ≤ n; omega⟩, by show q / 10 < q; omega, Weak.ren _ [] hC rfl (by rw [show bstr (UInt8.ofNat (48 + q % 10) :: acc) = bstr [UInt8.ofNat (48 + q % 10)] ++ bstr acc from (bstr_append [UInt8.ofNat (48 + q % 10)] acc).symm]; repeat (first | exact True.intro | refine And.intro ?_ ?_ | exact DLead.same | exact DLead.eqI (by omega) | exact DLead.eqI (by dsimp only; omega) | exact DLead.nil | exact rfl)) (by repeat (first | exact True.intro | refine And.intro ?_ ?_ | exact DLead.same | exact DLead.eqI (by omega) | exact DLead.eqI (by dsimp only; omega) | exact DLead.nil | exact rfl | refine ⟨_, _, rfl, rfl, ?_⟩ | refine ⟨_, rfl, ?_⟩ | refine ⟨_, _, rfl, ?_, ?_⟩)) rfl rfl rfl⟩
      · refine AC.exit ?_
        refine th_e ?_
        refine th_e ?_
        refine ib_y ?_
        refine th_n ?_
        refine AC.seq ?_
        have hq : q = 0 := by omega
        subst hq
        rw [dgs_zero] at hd
        have hsz := bstr_size acc
        refine AC.region ?_
        refine AL.p (by first | exact mv1 rfl | exact mv2 rfl | exact mv3 rfl | exact mv4 rfl | exact mv5 rfl | exact mv6 rfl | exact mv7 rfl | exact mv8 rfl | exact mv9 rfl | exact mv10 rfl | exact mv11 rfl) rfl ?_
        refine AL.p (by exact g_sadd (a := bstr [109]) rfl rfl (by rw [show (bstr [109]).size = 1 from rfl]; omega)) rfl ?_
        refine AL.p (by first | exact as1 rfl | exact as2 rfl | exact as3 rfl | exact as4 rfl | exact as5 rfl | exact as6 rfl | exact as7 rfl | exact as8 rfl | exact as9 rfl | exact as10 rfl | exact as11 rfl) rfl ?_
        refine AL.nil ?_
        refine th_n ?_
        refine AC.ret ?_
        refine bq_r ?_
        have e : mtx (n : Int) = [109] ++ acc := by rw [mtx, if_neg h0, Int.toNat_natCast, ← hd]; rfl
        exact ret1 rfl (by rw [e, ← bstr_append])
theorem en_markText : Enters Try.prog 21 := enters_of Try.func21 rfl rfl
/-- What is left of the measure. -/
def SzR (n : Nat) (left : Int) : AV → List (Nat × Chunk) → Prop := fun r chs => ∃ z : Int, (z = -1 ∨ (0 ≤ z ∧ z ≤ left ∧ (n : Int) ≤ left)) ∧ r = aI z ∧ chs = []
set_option maxHeartbeats 1000000 in
theorem szStringS_spec (l : List (List UInt8)) (left : Int) (h : 0 ≤ left ∧ left ≤ 1048576) (hl : l.length ≤ 9223372036854775807) (hb : ∀ t, t ∈ l → t.length ≤ 9223372036854775807) : ASpec Try.prog 4 [.d (vStr l), aI left] [] (SzR l.length left) := by
  refine ASpec.of Try.func4 rfl rfl fun C hC => ?_
  refine AC.seq ?_
  refine AC.region ?_
  refine AL.p (by first | exact as1 rfl | exact as2 rfl | exact as3 rfl | exact as4 rfl | exact as5 rfl | exact as6 rfl | exact as7 rfl | exact as8 rfl | exact as9 rfl | exact as10 rfl | exact as11 rfl) rfl ?_
  refine AL.nil ?_
  refine th_n ?_
  refine AC.seq ?_
  refine AC.region ?_
  refine AL.p (by first | exact mv1 rfl | exact mv2 rfl | exact mv3 rfl | exact mv4 rfl | exact mv5 rfl | exact mv6 rfl | exact mv7 rfl | exact mv8 rfl | exact mv9 rfl | exact mv10 rfl | exact mv11 rfl) rfl ?_
  refine AL.p (by first | exact mv1 rfl | exact mv2 rfl | exact mv3 rfl | exact mv4 rfl | exact mv5 rfl | exact mv6 rfl | exact mv7 rfl | exact mv8 rfl | exact mv9 rfl | exact mv10 rfl | exact mv11 rfl) rfl ?_
  refine AL.p (by exact g_len_view (k := l.length) rfl rfl (strL_len _)) rfl ?_
  refine AL.p (by exact g_arith rfl rfl rfl (by first | exact wrap_i64 (by omega) | exact wrap_u8 (by omega) | exact wrap_u64 (by omega) | rfl)) rfl ?_
  refine AL.p (by first | exact as1 rfl | exact as2 rfl | exact as3 rfl | exact as4 rfl | exact as5 rfl | exact as6 rfl | exact as7 rfl | exact as8 rfl | exact as9 rfl | exact as10 rfl | exact as11 rfl) rfl ?_
  refine AL.nil ?_
  refine th_n ?_
  refine AC.seq ?_
  refine AC.seq ?_
  refine AC.region ?_
  refine AL.p (by first | exact mv1 rfl | exact mv2 rfl | exact mv3 rfl | exact mv4 rfl | exact mv5 rfl | exact mv6 rfl | exact mv7 rfl | exact mv8 rfl | exact mv9 rfl | exact mv10 rfl | exact mv11 rfl) rfl ?_
  refine AL.p (by first | exact g_cmp rfl rfl rfl | exact g_scmp rfl rfl rfl | exact g_eqB rfl rfl rfl | exact g_neB rfl rfl rfl) rfl ?_
  refine AL.nil ?_
  refine th_n ?_
  first | refine AC.condD rfl (fun h0 => ?_) (fun h0 => ?_) | refine AC.condND rfl (fun h0 => ?_) (fun h0 => ?_) | refine AC.condB rfl (fun h0 => ?_) (fun h0 => ?_) | refine AC.condNB rfl (fun h0 => ?_) (fun h0 => ?_)
  · refine AC.seq ?_
    refine AC.region ?_
    refine AL.p (by first | exact as1 rfl | exact as2 rfl | exact as3 rfl | exact as4 rfl | exact as5 rfl | exact as6 rfl | exact as7 rfl | exact as8 rfl | exact as9 rfl | exact as10 rfl | exact as11 rfl) rfl ?_
    refine AL.nil ?_
    refine th_n ?_
    refine AC.ret ?_
    refine th_r ?_
    refine bq_r ?_
    exact retX [] rfl ⟨_, .inl rfl, rfl, rfl⟩ (by repeat (first | exact rfl | exact DLead.same | exact DLead.nil | refine ⟨_, _, rfl, ?_, ?_⟩ | refine ⟨_, rfl, ?_⟩)) (by repeat (first | exact True.intro | refine And.intro ?_ ?_ | exact DLead.same | exact DLead.eqI (by omega) | exact DLead.eqI (by dsimp only; omega) | exact DLead.nil | exact rfl | refine ⟨_, _, rfl, rfl, ?_⟩ | refine ⟨_, rfl, ?_⟩ | refine ⟨_, _, rfl, ?_, ?_⟩)) rfl rfl
  · refine AC.skip ?_
    refine th_n ?_
    refine AC.seq ?_
    refine AC.seq ?_
    refine AC.region ?_
    refine AL.p (by first | exact as1 rfl | exact as2 rfl | exact as3 rfl | exact as4 rfl | exact as5 rfl | exact as6 rfl | exact as7 rfl | exact as8 rfl | exact as9 rfl | exact as10 rfl | exact as11 rfl) rfl ?_
    refine AL.nil ?_
    refine th_n ?_
    refine AC.block ?_
    refine AC.loop (ι := Nat × Int) (fun x => ⟨28, 0, [(0, .d (vStr l)), (1, aI x.2), (5, aI x.1)], []⟩) (fun x => x.1 ≤ l.length ∧ (0 ≤ x.2 ∧ x.2 ≤ left - l.length)) (fun x => l.length - x.1) ((0, left - l.length)) ?_ (⟨Nat.zero_le _, by show 0 ≤ left - (l.length : Int); omega, Int.le_refl _⟩) ?_
    · refine Weak.ren _ [] hC rfl ?_ ?_ rfl rfl rfl <;> repeat (first | exact True.intro | refine And.intro ?_ ?_ | exact DLead.same | exact DLead.eqI (by omega) | exact DLead.eqI (by dsimp only; omega) | exact DLead.nil | exact rfl)
    · rintro ⟨k, lf⟩ ⟨hk, hlf⟩
      dsimp only at hk hlf ⊢
      refine AC.seq ?_
      refine AC.seq ?_
      refine AC.region ?_
      refine AL.p (by first | exact mv1 rfl | exact mv2 rfl | exact mv3 rfl | exact mv4 rfl | exact mv5 rfl | exact mv6 rfl | exact mv7 rfl | exact mv8 rfl | exact mv9 rfl | exact mv10 rfl | exact mv11 rfl) rfl ?_
      refine AL.p (by first | exact mv1 rfl | exact mv2 rfl | exact mv3 rfl | exact mv4 rfl | exact mv5 rfl | exact mv6 rfl | exact mv7 rfl | exact mv8 rfl | exact mv9 rfl | exact mv10 rfl | exact mv11 rfl) rfl ?_
      refine AL.p (by exact g_len_view (k := l.length) rfl rfl (strL_len _)) rfl ?_
      refine AL.p (by first | exact g_cmp rfl rfl rfl | exact g_scmp rfl rfl rfl | exact g_eqB rfl rfl rfl | exact g_neB rfl rfl rfl) rfl ?_
      refine AL.nil ?_
      refine th_n ?_
      first | refine AC.condD rfl (fun h1 => ?_) (fun h1 => ?_) | refine AC.condND rfl (fun h1 => ?_) (fun h1 => ?_) | refine AC.condB rfl (fun h1 => ?_) (fun h1 => ?_) | refine AC.condNB rfl (fun h1 => ?_) (fun h1 => ?_)
      · refine AC.skip ?_
        refine th_n ?_
        refine AC.seq ?_
        refine AC.block ?_
        refine AC.seq ?_
        have hk1 : k < l.length := by omega
        have hget := strL_get hk1
        have hbk := hb _ (List.getElem_mem hk1)
        have hsz := bstr_size l[k]
        refine AC.region ?_
        refine AL.p (by first | exact mv1 rfl | exact mv2 rfl | exact mv3 rfl | exact mv4 rfl | exact mv5 rfl | exact mv6 rfl | exact mv7 rfl | exact mv8 rfl | exact mv9 rfl | exact mv10 rfl | exact mv11 rfl) rfl ?_
        refine AL.p (by first | exact mv1 rfl | exact mv2 rfl | exact mv3 rfl | exact mv4 rfl | exact mv5 rfl | exact mv6 rfl | exact mv7 rfl | exact mv8 rfl | exact mv9 rfl | exact mv10 rfl | exact mv11 rfl) rfl ?_
        refine AL.p (by first | exact mv1 rfl | exact mv2 rfl | exact mv3 rfl | exact mv4 rfl | exact mv5 rfl | exact mv6 rfl | exact mv7 rfl | exact mv8 rfl | exact mv9 rfl | exact mv10 rfl | exact mv11 rfl) rfl ?_
        refine AL.p (by first | exact g_ia_view rfl rfl rfl rfl rfl (by first | rfl | assumption) (by first | assumption | rfl) | exact g_ia_own rfl rfl rfl rfl rfl (by first | rfl | assumption) (by omega) (by first | exact Nat.mul_one _ | rfl | omega)) rfl ?_
        refine AL.p (by first | exact g_load_ref rfl rfl rfl | exact g_load_ptr rfl rfl rfl rfl rfl | exact g_load_refN rfl rfl rfl rfl | exact g_load_ptrN rfl rfl rfl rfl rfl | exact g_load_arr1 rfl rfl rfl rfl (by assumption) | exact g_load_arr rfl rfl rfl rfl (by first | rfl | omega) (by first | assumption | rfl) (by first | assumption | rfl)) rfl ?_
        refine AL.p (by first | exact g_len_view rfl rfl (by first | exact List.length_map _ | rfl) | exact g_len_str rfl rfl rfl | exact g_len_nil rfl rfl | exact g_len_own (sz := 1) (els := []) (e' := 0) rfl rfl (by simp only [maxLen]; omega) | exact g_len_tight rfl rfl (by first | exact List.length_map _ | rfl)) rfl ?_
        refine AL.p (by exact g_arith rfl rfl rfl (by first | exact wrap_i64 (by omega) | exact wrap_u8 (by omega) | exact wrap_u64 (by omega) | rfl)) rfl ?_
        refine AL.p (by first | exact as1 rfl | exact as2 rfl | exact as3 rfl | exact as4 rfl | exact as5 rfl | exact as6 rfl | exact as7 rfl | exact as8 rfl | exact as9 rfl | exact as10 rfl | exact as11 rfl) rfl ?_
        refine AL.nil ?_
        refine th_n ?_
        refine AC.seq ?_
        refine AC.region ?_
        refine AL.p (by first | exact mv1 rfl | exact mv2 rfl | exact mv3 rfl | exact mv4 rfl | exact mv5 rfl | exact mv6 rfl | exact mv7 rfl | exact mv8 rfl | exact mv9 rfl | exact mv10 rfl | exact mv11 rfl) rfl ?_
        refine AL.p (by first | exact g_cmp rfl rfl rfl | exact g_scmp rfl rfl rfl | exact g_eqB rfl rfl rfl | exact g_neB rfl rfl rfl) rfl ?_
        refine AL.nil ?_
        refine th_n ?_
        first | refine AC.condD rfl (fun h2 => ?_) (fun h2 => ?_) | refine AC.condND rfl (fun h2 => ?_) (fun h2 => ?_) | refine AC.condB rfl (fun h2 => ?_) (fun h2 => ?_) | refine AC.condNB rfl (fun h2 => ?_) (fun h2 => ?_)
        · refine AC.seq ?_
          refine AC.region ?_
          refine AL.p (by first | exact as1 rfl | exact as2 rfl | exact as3 rfl | exact as4 rfl | exact as5 rfl | exact as6 rfl | exact as7 rfl | exact as8 rfl | exact as9 rfl | exact as10 rfl | exact as11 rfl) rfl ?_
          refine AL.nil ?_
          refine th_n ?_
          refine AC.ret ?_
          refine ib_r ?_
          refine th_r ?_
          refine th_r ?_
          refine ib_r ?_
          refine th_r ?_
          refine bq_r ?_
          exact retX [] rfl ⟨_, .inl rfl, rfl, rfl⟩ (by repeat (first | exact rfl | exact DLead.same | exact DLead.nil | refine ⟨_, _, rfl, ?_, ?_⟩ | refine ⟨_, rfl, ?_⟩)) (by repeat (first | exact True.intro | refine And.intro ?_ ?_ | exact DLead.same | exact DLead.eqI (by omega) | exact DLead.eqI (by dsimp only; omega) | exact DLead.nil | exact rfl | refine ⟨_, _, rfl, rfl, ?_⟩ | refine ⟨_, rfl, ?_⟩ | refine ⟨_, _, rfl, ?_, ?_⟩)) rfl rfl
        · refine AC.skip ?_
          refine ib_n ?_
          refine th_n ?_
          refine AC.region ?_
          refine AL.p (by first | exact mv1 rfl | exact mv2 rfl | exact mv3 rfl | exact mv4 rfl | exact mv5 rfl | exact mv6 rfl | exact mv7 rfl | exact mv8 rfl | exact mv9 rfl | exact mv10 rfl | exact mv11 rfl) rfl ?_
          refine AL.p (by first | exact g_arith rfl rfl rfl (by first | exact wrap_i64 (by omega) | exact wrap_u8 (by omega) | exact wrap_u64 (by omega) | rfl) | exact g_sadd rfl rfl (by first | assumption | omega | (simp only [ByteArray.size_append, bstr_size, List.length_take, List.length_drop, List.length_cons, List.length_nil]; omega))) rfl ?_
          refine AL.p (by first | exact as1 rfl | exact as2 rfl | exact as3 rfl | exact as4 rfl | exact as5 rfl | exact as6 rfl | exact as7 rfl | exact as8 rfl | exact as9 rfl | exact as10 rfl | exact as11 rfl) rfl ?_
          refine AL.nil ?_
          refine th_n ?_
          exact ⟨(k + 1, lf - ((bstr l[k]).size : Int)), ⟨by show k + 1 ≤ _; omega, by show 0 ≤ lf - ((bstr l[k]).size : Int); omega, by show lf - ((bstr l[k]).size : Int) ≤ _; omega⟩, by show l.length - (k + 1) < l.length - k; omega, Weak.ren _ [] hC rfl (by repeat (first | exact True.intro | refine And.intro ?_ ?_ | exact DLead.same | exact DLead.eqI (by omega) | exact DLead.eqI (by dsimp only; omega) | exact DLead.nil | exact rfl)) (by repeat (first | exact True.intro | refine And.intro ?_ ?_ | exact DLead.same | exact DLead.eqI (by omega) | exact DLead.eqI (by dsimp only; omega) | exact DLead.nil | exact rfl | refine ⟨_, _, rfl, rfl, ?_⟩ | refine ⟨_, rfl, ?_⟩ | refine ⟨_, _, rfl, ?_, ?_⟩)) rfl rfl rfl⟩
      · refine AC.exit ?_
        refine th_e ?_
        refine th_e ?_
        refine ib_y ?_
        refine th_n ?_
        refine AC.seq ?_
        refine AC.region ?_
        refine AL.p (by first | exact mv1 rfl | exact mv2 rfl | exact mv3 rfl | exact mv4 rfl | exact mv5 rfl | exact mv6 rfl | exact mv7 rfl | exact mv8 rfl | exact mv9 rfl | exact mv10 rfl | exact mv11 rfl) rfl ?_
        refine AL.p (by first | exact as1 rfl | exact as2 rfl | exact as3 rfl | exact as4 rfl | exact as5 rfl | exact as6 rfl | exact as7 rfl | exact as8 rfl | exact as9 rfl | exact as10 rfl | exact as11 rfl) rfl ?_
        refine AL.nil ?_
        refine th_n ?_
        refine AC.ret ?_
        refine bq_r ?_
        exact retX [] rfl ⟨lf, .inr ⟨hlf.1, by omega, by omega⟩, rfl, rfl⟩ (by repeat (first | exact rfl | exact DLead.same | exact DLead.nil | refine ⟨_, _, rfl, ?_, ?_⟩ | refine ⟨_, rfl, ?_⟩)) (by repeat (first | exact True.intro | refine And.intro ?_ ?_ | exact DLead.same | exact DLead.eqI (by omega) | exact DLead.eqI (by dsimp only; omega) | exact DLead.nil | exact rfl | refine ⟨_, _, rfl, rfl, ?_⟩ | refine ⟨_, rfl, ?_⟩ | refine ⟨_, _, rfl, ?_, ?_⟩)) rfl rfl
theorem en_szStringS : Enters Try.prog 4 := enters_of Try.func4 rfl rfl
theorem sigsL_flat (l : List Sig) : ∀ cs, cs ∈ sigsL l → ∀ d, d ∈ cs → d.flat := by
  intro cs hc d hd
  obtain ⟨x, _, rfl⟩ := List.mem_map.1 hc
  rcases List.mem_cons.1 hd with rfl | hd
  · exact trivial
  · obtain rfl := List.mem_singleton.1 hd
    exact trivial
set_option maxHeartbeats 1000000 in
theorem toStringS_O (l : List (List UInt8)) (hl : l.length ≤ 1048576) : ASpec Try.prog 6 [.d (vStr l)] [] (Fun1 (.own 0 l.length) [(0, .arr 9 1 (strL l))]) := by
  refine ASpec.of Try.func6 rfl rfl fun C hC => ?_
  refine AC.seq ?_
  refine AC.region ?_
  refine AL.p (by first | exact as1 rfl | exact as2 rfl | exact as3 rfl | exact as4 rfl | exact as5 rfl | exact as6 rfl | exact as7 rfl | exact as8 rfl | exact as9 rfl | exact as10 rfl | exact as11 rfl) rfl ?_
  refine AL.nil ?_
  refine th_n ?_
  refine AC.seq ?_
  refine AC.region ?_
  refine AL.p (by first | exact mv1 rfl | exact mv2 rfl | exact mv3 rfl | exact mv4 rfl | exact mv5 rfl | exact mv6 rfl | exact mv7 rfl | exact mv8 rfl | exact mv9 rfl | exact mv10 rfl | exact mv11 rfl) rfl ?_
  refine AL.p (by exact g_len_view (k := l.length) rfl rfl (strL_len _)) rfl ?_
  refine AL.q (by exact h_make (k := l.length) rfl rfl rfl rfl rfl rfl rfl rfl (by show 16 * l.length ≤ _; omega) (by omega)) rfl ?_
  refine AL.p (by first | exact as1 rfl | exact as2 rfl | exact as3 rfl | exact as4 rfl | exact as5 rfl | exact as6 rfl | exact as7 rfl | exact as8 rfl | exact as9 rfl | exact as10 rfl | exact as11 rfl) rfl ?_
  refine AL.nil ?_
  refine th_n ?_
  refine AC.seq ?_
  refine AC.seq ?_
  refine AC.region ?_
  refine AL.p (by first | exact as1 rfl | exact as2 rfl | exact as3 rfl | exact as4 rfl | exact as5 rfl | exact as6 rfl | exact as7 rfl | exact as8 rfl | exact as9 rfl | exact as10 rfl | exact as11 rfl) rfl ?_
  refine AL.nil ?_
  refine th_n ?_
  refine AC.block ?_
  refine AC.loop (ι := Nat) (fun k => ⟨22, 108, [(0, .d (vStr l)), (3, .own 100 l.length), (4, aI k)], [(100, some (.arr 9 1 (fillR (strL l) [dS ByteArray.empty] k)))]⟩) (fun k => k ≤ l.length) (fun k => l.length - k) (0) ?_ (Nat.zero_le _) ?_
  · exact Weak.ren _ [(100, _)] hC rfl (by repeat (first | exact True.intro | refine And.intro ?_ ?_ | exact DLead.same | exact DLead.eqI (by omega) | exact DLead.eqI (by dsimp only; omega) | exact DLead.nil | exact rfl | refine ⟨_, _, rfl, rfl, ?_⟩ | refine ⟨_, rfl, ?_⟩ | refine ⟨_, _, rfl, ?_, ?_⟩)) (by rw [fill_zero, strL_len]; repeat (first | exact True.intro | refine And.intro ?_ ?_ | exact DLead.same | exact DLead.eqI (by omega) | exact DLead.eqI (by dsimp only; omega) | exact DLead.nil | exact rfl | refine ⟨_, _, rfl, rfl, ?_⟩ | refine ⟨_, rfl, ?_⟩ | refine ⟨_, _, rfl, ?_, ?_⟩)) rfl rfl rfl
  · intro k hk
    refine AC.seq ?_
    refine AC.seq ?_
    refine AC.region ?_
    refine AL.p (by first | exact mv1 rfl | exact mv2 rfl | exact mv3 rfl | exact mv4 rfl | exact mv5 rfl | exact mv6 rfl | exact mv7 rfl | exact mv8 rfl | exact mv9 rfl | exact mv10 rfl | exact mv11 rfl) rfl ?_
    refine AL.p (by first | exact mv1 rfl | exact mv2 rfl | exact mv3 rfl | exact mv4 rfl | exact mv5 rfl | exact mv6 rfl | exact mv7 rfl | exact mv8 rfl | exact mv9 rfl | exact mv10 rfl | exact mv11 rfl) rfl ?_
    refine AL.p (by exact g_len_view (k := l.length) rfl rfl (strL_len _)) rfl ?_
    refine AL.p (by first | exact g_cmp rfl rfl rfl | exact g_scmp rfl rfl rfl | exact g_eqB rfl rfl rfl | exact g_neB rfl rfl rfl) rfl ?_
    refine AL.nil ?_
    refine th_n ?_
    first | refine AC.condD rfl (fun h0 => ?_) (fun h0 => ?_) | refine AC.condND rfl (fun h0 => ?_) (fun h0 => ?_) | refine AC.condB rfl (fun h0 => ?_) (fun h0 => ?_) | refine AC.condNB rfl (fun h0 => ?_) (fun h0 => ?_)
    · refine AC.skip ?_
      refine th_n ?_
      refine AC.seq ?_
      refine AC.block ?_
      have hk1 : k < l.length := by omega
      have hget := strL_get hk1
      have hfl := fill_len (strL l) [dS ByteArray.empty] (k := k) (by rw [strL_len]; omega)
      rw [strL_len] at hfl
      have hgf := fill_get (R := strL l) (z := [dS ByteArray.empty]) (k := k) (by rw [strL_len]; omega)
      have hst := fill_set (R := strL l) (z := [dS ByteArray.empty]) (k := k) (by rw [strL_len]; omega) hget
      refine AC.region ?_
      refine AL.p (by first | exact mv1 rfl | exact mv2 rfl | exact mv3 rfl | exact mv4 rfl | exact mv5 rfl | exact mv6 rfl | exact mv7 rfl | exact mv8 rfl | exact mv9 rfl | exact mv10 rfl | exact mv11 rfl) rfl ?_
      refine AL.p (by first | exact mv1 rfl | exact mv2 rfl | exact mv3 rfl | exact mv4 rfl | exact mv5 rfl | exact mv6 rfl | exact mv7 rfl | exact mv8 rfl | exact mv9 rfl | exact mv10 rfl | exact mv11 rfl) rfl ?_
      refine AL.p (by first | exact mv1 rfl | exact mv2 rfl | exact mv3 rfl | exact mv4 rfl | exact mv5 rfl | exact mv6 rfl | exact mv7 rfl | exact mv8 rfl | exact mv9 rfl | exact mv10 rfl | exact mv11 rfl) rfl ?_
      refine AL.p (by first | exact mv1 rfl | exact mv2 rfl | exact mv3 rfl | exact mv4 rfl | exact mv5 rfl | exact mv6 rfl | exact mv7 rfl | exact mv8 rfl | exact mv9 rfl | exact mv10 rfl | exact mv11 rfl) rfl ?_
      refine AL.p (by first | exact g_ia_view rfl rfl rfl rfl rfl (by first | rfl | assumption) (by first | assumption | rfl) | exact g_ia_own rfl rfl rfl rfl rfl (by first | rfl | assumption) (by omega) (by first | exact Nat.mul_one _ | rfl | omega)) rfl ?_
      refine AL.p (by first | exact g_load_ref rfl rfl rfl | exact g_load_ptr rfl rfl rfl rfl rfl | exact g_load_refN rfl rfl rfl rfl | exact g_load_ptrN rfl rfl rfl rfl rfl | exact g_load_arr1 rfl rfl rfl rfl (by assumption) | exact g_load_arr rfl rfl rfl rfl (by first | rfl | omega) (by first | assumption | rfl) (by first | assumption | rfl)) rfl ?_
      refine AL.p (by first | exact g_ia_view rfl rfl rfl rfl rfl (by first | rfl | assumption) (by first | assumption | rfl) | exact g_ia_own rfl rfl rfl rfl rfl (by first | rfl | assumption) (by omega) (by first | exact Nat.mul_one _ | rfl | omega)) rfl ?_
      refine AL.q (by first | exact h_store rfl rfl rfl rfl rfl rfl | exact h_store_arr1 rfl rfl rfl rfl (by first | exact .same | exact .nil) (by assumption) | exact h_store_arr rfl rfl rfl rfl (by first | exact .same | exact .nil) (by first | rfl | omega) (by first | assumption | rfl) (by omega)) rfl ?_
      refine AL.nil ?_
      refine ib_n ?_
      refine th_n ?_
      refine AC.region ?_
      refine AL.p (by first | exact mv1 rfl | exact mv2 rfl | exact mv3 rfl | exact mv4 rfl | exact mv5 rfl | exact mv6 rfl | exact mv7 rfl | exact mv8 rfl | exact mv9 rfl | exact mv10 rfl | exact mv11 rfl) rfl ?_
      refine AL.p (by first | exact g_arith rfl rfl rfl (by first | exact wrap_i64 (by omega) | exact wrap_u8 (by omega) | exact wrap_u64 (by omega) | rfl) | exact g_sadd rfl rfl (by first | assumption | omega | (simp only [ByteArray.size_append, bstr_size, List.length_take, List.length_drop, List.length_cons, List.length_nil]; omega))) rfl ?_
      refine AL.p (by first | exact as1 rfl | exact as2 rfl | exact as3 rfl | exact as4 rfl | exact as5 rfl | exact as6 rfl | exact as7 rfl | exact as8 rfl | exact as9 rfl | exact as10 rfl | exact as11 rfl) rfl ?_
      refine AL.nil ?_
      refine th_n ?_
      exact ⟨k + 1, by omega, by omega, Weak.ren _ [(100, _)] hC rfl (by repeat (first | exact True.intro | refine And.intro ?_ ?_ | exact DLead.same | exact DLead.eqI (by omega) | exact DLead.eqI (by dsimp only; omega) | exact DLead.nil | exact rfl | refine ⟨_, _, rfl, rfl, ?_⟩ | refine ⟨_, rfl, ?_⟩ | refine ⟨_, _, rfl, ?_, ?_⟩)) (by rw [← hst]; repeat (first | exact True.intro | refine And.intro ?_ ?_ | exact DLead.same | exact DLead.eqI (by omega) | exact DLead.eqI (by dsimp only; omega) | exact DLead.nil | exact rfl | refine ⟨_, _, rfl, rfl, ?_⟩ | refine ⟨_, rfl, ?_⟩ | refine ⟨_, _, rfl, ?_, ?_⟩)) rfl rfl rfl⟩
    · refine AC.exit ?_
      refine th_e ?_
      refine th_e ?_
      refine ib_y ?_
      refine th_n ?_
      refine AC.seq ?_
      have hkk : k = l.length := by omega
      have hfa := fill_all (strL l) [dS ByteArray.empty]
      rw [strL_len] at hfa
      rw [hkk, hfa]
      refine AC.region ?_
      refine AL.p (by first | exact mv1 rfl | exact mv2 rfl | exact mv3 rfl | exact mv4 rfl | exact mv5 rfl | exact mv6 rfl | exact mv7 rfl | exact mv8 rfl | exact mv9 rfl | exact mv10 rfl | exact mv11 rfl) rfl ?_
      refine AL.p (by first | exact as1 rfl | exact as2 rfl | exact as3 rfl | exact as4 rfl | exact as5 rfl | exact as6 rfl | exact as7 rfl | exact as8 rfl | exact as9 rfl | exact as10 rfl | exact as11 rfl) rfl ?_
      refine AL.nil ?_
      refine th_n ?_
      refine AC.ret ?_
      refine bq_r ?_
      exact retX [(0, 100)] rfl ⟨rfl, rfl⟩ (by repeat (first | exact rfl | exact DLead.same | exact DLead.nil | refine ⟨_, _, rfl, ?_, ?_⟩ | refine ⟨_, rfl, ?_⟩)) (by repeat (first | exact True.intro | refine And.intro ?_ ?_ | exact DLead.same | exact DLead.eqI (by omega) | exact DLead.eqI (by dsimp only; omega) | exact DLead.nil | exact rfl | refine ⟨_, _, rfl, rfl, ?_⟩ | refine ⟨_, rfl, ?_⟩ | refine ⟨_, _, rfl, ?_, ?_⟩)) rfl rfl
theorem en_toStringS : Enters Try.prog 6 := enters_of Try.func6 rfl rfl
set_option maxHeartbeats 1000000 in
theorem eqStringS_spec (a b : List (List UInt8)) (ha : a.length ≤ 1048576) (hb : b.length ≤ 1048576) : ASpec Try.prog 9 [.d (vStr a), .d (vStr b)] [] (Pure1 (aT (decide (a = b)))) := by
  refine ASpec.of Try.func9 rfl rfl fun C hC => ?_
  refine AC.seq ?_
  refine AC.region ?_
  refine AL.p (by first | exact as1 rfl | exact as2 rfl | exact as3 rfl | exact as4 rfl | exact as5 rfl | exact as6 rfl | exact as7 rfl | exact as8 rfl | exact as9 rfl | exact as10 rfl | exact as11 rfl) rfl ?_
  refine AL.nil ?_
  refine th_n ?_
  refine AC.seq ?_
  refine AC.seq ?_
  refine AC.region ?_
  refine AL.p (by first | exact mv1 rfl | exact mv2 rfl | exact mv3 rfl | exact mv4 rfl | exact mv5 rfl | exact mv6 rfl | exact mv7 rfl | exact mv8 rfl | exact mv9 rfl | exact mv10 rfl | exact mv11 rfl) rfl ?_
  refine AL.p (by exact g_len_view (k := a.length) rfl rfl (strL_len _)) rfl ?_
  refine AL.p (by first | exact mv1 rfl | exact mv2 rfl | exact mv3 rfl | exact mv4 rfl | exact mv5 rfl | exact mv6 rfl | exact mv7 rfl | exact mv8 rfl | exact mv9 rfl | exact mv10 rfl | exact mv11 rfl) rfl ?_
  refine AL.p (by exact g_len_view (k := b.length) rfl rfl (strL_len _)) rfl ?_
  refine AL.p (by first | exact g_cmp rfl rfl rfl | exact g_scmp rfl rfl rfl | exact g_eqB rfl rfl rfl | exact g_neB rfl rfl rfl) rfl ?_
  refine AL.nil ?_
  refine th_n ?_
  first | refine AC.condD rfl (fun h0 => ?_) (fun h0 => ?_) | refine AC.condND rfl (fun h0 => ?_) (fun h0 => ?_) | refine AC.condB rfl (fun h0 => ?_) (fun h0 => ?_) | refine AC.condNB rfl (fun h0 => ?_) (fun h0 => ?_)
  · refine AC.seq ?_
    refine AC.region ?_
    refine AL.p (by first | exact as1 rfl | exact as2 rfl | exact as3 rfl | exact as4 rfl | exact as5 rfl | exact as6 rfl | exact as7 rfl | exact as8 rfl | exact as9 rfl | exact as10 rfl | exact as11 rfl) rfl ?_
    refine AL.nil ?_
    refine th_n ?_
    refine AC.ret ?_
    refine th_r ?_
    refine bq_r ?_
    have hne : a ≠ b := fun e => h0 (by rw [e])
    exact ret1 rfl (by rw [decide_eq_false hne])
  · refine AC.skip ?_
    refine th_n ?_
    refine AC.seq ?_
    refine AC.seq ?_
    refine AC.region ?_
    refine AL.p (by first | exact as1 rfl | exact as2 rfl | exact as3 rfl | exact as4 rfl | exact as5 rfl | exact as6 rfl | exact as7 rfl | exact as8 rfl | exact as9 rfl | exact as10 rfl | exact as11 rfl) rfl ?_
    refine AL.nil ?_
    refine th_n ?_
    refine AC.block ?_
    refine AC.loop (ι := Nat) (fun k => ⟨26, 0, [(0, .d (vStr a)), (1, .d (vStr b)), (5, aI k)], []⟩) (fun k => k ≤ a.length ∧ ∀ j (h1 : j < a.length) (h2 : j < b.length), j < k → a[j] = b[j]) (fun k => a.length - k) (0) ?_ (⟨Nat.zero_le _, fun j _ _ hj => by omega⟩) ?_
    · refine Weak.ren _ [] hC rfl ?_ ?_ rfl rfl rfl <;> repeat (first | exact True.intro | refine And.intro ?_ ?_ | exact DLead.same | exact DLead.eqI (by omega) | exact DLead.eqI (by dsimp only; omega) | exact DLead.nil | exact rfl)
    · intro k ⟨hk, hall⟩
      refine AC.seq ?_
      refine AC.seq ?_
      refine AC.region ?_
      refine AL.p (by first | exact mv1 rfl | exact mv2 rfl | exact mv3 rfl | exact mv4 rfl | exact mv5 rfl | exact mv6 rfl | exact mv7 rfl | exact mv8 rfl | exact mv9 rfl | exact mv10 rfl | exact mv11 rfl) rfl ?_
      refine AL.p (by first | exact mv1 rfl | exact mv2 rfl | exact mv3 rfl | exact mv4 rfl | exact mv5 rfl | exact mv6 rfl | exact mv7 rfl | exact mv8 rfl | exact mv9 rfl | exact mv10 rfl | exact mv11 rfl) rfl ?_
      refine AL.p (by exact g_len_view (k := a.length) rfl rfl (strL_len _)) rfl ?_
      refine AL.p (by first | exact g_cmp rfl rfl rfl | exact g_scmp rfl rfl rfl | exact g_eqB rfl rfl rfl | exact g_neB rfl rfl rfl) rfl ?_
      refine AL.nil ?_
      refine th_n ?_
      first | refine AC.condD rfl (fun h1 => ?_) (fun h1 => ?_) | refine AC.condND rfl (fun h1 => ?_) (fun h1 => ?_) | refine AC.condB rfl (fun h1 => ?_) (fun h1 => ?_) | refine AC.condNB rfl (fun h1 => ?_) (fun h1 => ?_)
      · refine AC.skip ?_
        refine th_n ?_
        refine AC.seq ?_
        refine AC.block ?_
        refine AC.seq ?_
        have hk1 : k < a.length := by omega
        have hk2 : k < b.length := by omega
        have hgeta := strL_get hk1
        have hgetb := strL_get hk2
        refine AC.drawn' mixed_ok [[], [], [0,1], [0,1,2], [], [], [4,5], [4,5,6], [0,1,2,3,4,5,6,7]] (by decide) ?_
        refine DF.op 0 [] 9 rfl rfl rfl (.free rfl (NOp.of (by first | exact mv1 rfl | exact mv2 rfl | exact mv3 rfl | exact mv4 rfl | exact mv5 rfl | exact mv6 rfl | exact mv7 rfl | exact mv8 rfl | exact mv9 rfl | exact mv10 rfl | exact mv11 rfl))) rfl ?_
        refine DF.op 1 [] 9 rfl rfl rfl (.free rfl (NOp.of (by first | exact mv1 rfl | exact mv2 rfl | exact mv3 rfl | exact mv4 rfl | exact mv5 rfl | exact mv6 rfl | exact mv7 rfl | exact mv8 rfl | exact mv9 rfl | exact mv10 rfl | exact mv11 rfl))) rfl ?_
        refine DF.op 2 [0,1] 9 rfl rfl rfl (.free rfl (NOp.of (by first | exact g_ia_view rfl rfl rfl rfl rfl (by first | rfl | assumption) (by first | assumption | rfl) | exact g_ia_own rfl rfl rfl rfl rfl (by first | rfl | assumption) (by omega) (by first | exact Nat.mul_one _ | rfl | omega)))) rfl ?_
        refine DF.op 3 [0,1,2] 9 rfl rfl rfl (.free rfl (NOp.of (by first | exact g_load_ref rfl rfl rfl | exact g_load_ptr rfl rfl rfl rfl rfl | exact g_load_refN rfl rfl rfl rfl | exact g_load_ptrN rfl rfl rfl rfl rfl | exact g_load_arr1 rfl rfl rfl rfl (by assumption) | exact g_load_arr rfl rfl rfl rfl (by first | rfl | omega) (by first | assumption | rfl) (by first | assumption | rfl)))) rfl ?_
        refine DF.op 4 [] 9 rfl rfl rfl (.free rfl (NOp.of (by first | exact mv1 rfl | exact mv2 rfl | exact mv3 rfl | exact mv4 rfl | exact mv5 rfl | exact mv6 rfl | exact mv7 rfl | exact mv8 rfl | exact mv9 rfl | exact mv10 rfl | exact mv11 rfl))) rfl ?_
        refine DF.op 5 [] 9 rfl rfl rfl (.free rfl (NOp.of (by first | exact mv1 rfl | exact mv2 rfl | exact mv3 rfl | exact mv4 rfl | exact mv5 rfl | exact mv6 rfl | exact mv7 rfl | exact mv8 rfl | exact mv9 rfl | exact mv10 rfl | exact mv11 rfl))) rfl ?_
        refine DF.op 6 [4,5] 9 rfl rfl rfl (.free rfl (NOp.of (by first | exact g_ia_view rfl rfl rfl rfl rfl (by first | rfl | assumption) (by first | assumption | rfl) | exact g_ia_own rfl rfl rfl rfl rfl (by first | rfl | assumption) (by omega) (by first | exact Nat.mul_one _ | rfl | omega)))) rfl ?_
        refine DF.op 7 [4,5,6] 9 rfl rfl rfl (.free rfl (NOp.of (by first | exact g_load_ref rfl rfl rfl | exact g_load_ptr rfl rfl rfl rfl rfl | exact g_load_refN rfl rfl rfl rfl | exact g_load_ptrN rfl rfl rfl rfl rfl | exact g_load_arr1 rfl rfl rfl rfl (by assumption) | exact g_load_arr rfl rfl rfl rfl (by first | rfl | omega) (by first | assumption | rfl) (by first | assumption | rfl)))) rfl ?_
        refine DF.op 8 [0,1,2,3,4,5,6,7] 9 rfl rfl rfl (.free rfl (NOp.of (by first | exact g_cmp rfl rfl rfl | exact g_scmp rfl rfl rfl | exact g_eqB rfl rfl rfl | exact g_neB rfl rfl rfl))) rfl ?_
        refine DF.fin (ps := [(0, 1), (0, 4), (0, 5), (0, 6), (0, 7), (1, 0), (1, 4), (1, 5), (1, 6), (1, 7), (2, 4), (2, 5), (2, 6), (2, 7), (3, 4), (3, 5), (3, 6), (3, 7), (4, 0), (4, 1), (4, 2), (4, 3), (4, 5), (5, 0), (5, 1), (5, 2), (5, 3), (5, 4), (6, 0), (6, 1), (6, 2), (6, 3), (7, 0), (7, 1), (7, 2), (7, 3)]) 9 rfl (by decide +kernel) (by decide +kernel) (by rfl) ?_
        refine th_n ?_
        first | refine AC.condD rfl (fun h2 => ?_) (fun h2 => ?_) | refine AC.condND rfl (fun h2 => ?_) (fun h2 => ?_) | refine AC.condB rfl (fun h2 => ?_) (fun h2 => ?_) | refine AC.condNB rfl (fun h2 => ?_) (fun h2 => ?_)
        · refine AC.seq ?_
          refine AC.region ?_
          refine AL.p (by first | exact as1 rfl | exact as2 rfl | exact as3 rfl | exact as4 rfl | exact as5 rfl | exact as6 rfl | exact as7 rfl | exact as8 rfl | exact as9 rfl | exact as10 rfl | exact as11 rfl) rfl ?_
          refine AL.nil ?_
          refine th_n ?_
          refine AC.ret ?_
          refine ib_r ?_
          refine th_r ?_
          refine th_r ?_
          refine ib_r ?_
          refine th_r ?_
          refine bq_r ?_
          have hne : a ≠ b := fun e => by subst e; simp at h2
          exact ret1 rfl (by rw [decide_eq_false hne])
        · refine AC.skip ?_
          refine ib_n ?_
          refine th_n ?_
          refine AC.region ?_
          refine AL.p (by first | exact mv1 rfl | exact mv2 rfl | exact mv3 rfl | exact mv4 rfl | exact mv5 rfl | exact mv6 rfl | exact mv7 rfl | exact mv8 rfl | exact mv9 rfl | exact mv10 rfl | exact mv11 rfl) rfl ?_
          refine AL.p (by first | exact g_arith rfl rfl rfl (by first | exact wrap_i64 (by omega) | exact wrap_u8 (by omega) | exact wrap_u64 (by omega) | rfl) | exact g_sadd rfl rfl (by first | assumption | omega | (simp only [ByteArray.size_append, bstr_size, List.length_take, List.length_drop, List.length_cons, List.length_nil]; omega))) rfl ?_
          refine AL.p (by first | exact as1 rfl | exact as2 rfl | exact as3 rfl | exact as4 rfl | exact as5 rfl | exact as6 rfl | exact as7 rfl | exact as8 rfl | exact as9 rfl | exact as10 rfl | exact as11 rfl) rfl ?_
          refine AL.nil ?_
          refine th_n ?_
          have hkk : a[k] = b[k] := by simpa [bstr_iff] using h2
          exact ⟨k + 1, ⟨by omega, fun j h1 h2 hj => by rcases Nat.lt_succ_iff_lt_or_eq.1 hj with h | rfl; exact hall j h1 h2 h; exact hkk⟩, by omega, Weak.ren _ [] hC rfl (by repeat (first | exact True.intro | refine And.intro ?_ ?_ | exact DLead.same | exact DLead.eqI (by omega) | exact DLead.eqI (by dsimp only; omega) | exact DLead.nil | exact rfl)) (by repeat (first | exact True.intro | refine And.intro ?_ ?_ | exact DLead.same | exact DLead.eqI (by omega) | exact DLead.eqI (by dsimp only; omega) | exact DLead.nil | exact rfl | refine ⟨_, _, rfl, rfl, ?_⟩ | refine ⟨_, rfl, ?_⟩ | refine ⟨_, _, rfl, ?_, ?_⟩)) rfl rfl rfl⟩
      · refine AC.exit ?_
        refine th_e ?_
        refine th_e ?_
        refine ib_y ?_
        refine th_n ?_
        refine AC.seq ?_
        refine AC.region ?_
        refine AL.p (by first | exact as1 rfl | exact as2 rfl | exact as3 rfl | exact as4 rfl | exact as5 rfl | exact as6 rfl | exact as7 rfl | exact as8 rfl | exact as9 rfl | exact as10 rfl | exact as11 rfl) rfl ?_
        refine AL.nil ?_
        refine th_n ?_
        refine AC.ret ?_
        refine bq_r ?_
        have he : a = b := List.ext_getElem (by omega) (fun j h1 h2 => hall j h1 h2 (by omega))
        exact ret1 rfl (by rw [decide_eq_true he])
theorem en_eqStringS : Enters Try.prog 9 := enters_of Try.func9 rfl rfl
/-- Marks written into texts, into signals. -/
def mkTx (k : Int) (n : Nat) : List (List UInt8) := (List.range n).map fun i : Nat => mtx (k + (i : Int))
def mkSg (k : Int) (n : Nat) : List Sig := (List.range n).map fun i : Nat => ⟨mtx (k + 2 * (i : Int)), k + 2 * (i : Int) + 1⟩
theorem mkTx_len (k : Int) (n : Nat) : (mkTx k n).length = n := by simp [mkTx]
theorem mkSg_len (k : Int) (n : Nat) : (mkSg k n).length = n := by simp [mkSg]
theorem mkTx_succ (k : Int) (i : Nat) : mkTx k (i + 1) = mkTx k i ++ [mtx (k + i)] := by simp [mkTx, List.range_succ]
theorem mkSg_succ (k : Int) (i : Nat) : mkSg k (i + 1) = mkSg k i ++ [⟨mtx (k + 2 * i), k + 2 * i + 1⟩] := by simp [mkSg, List.range_succ]
theorem mkSg_get {k : Int} {n i : Nat} (h : i < n) : (sigsL (mkSg k n))[i]? = some [dS (bstr (mtx (k + 2 * i))), dI (k + 2 * i + 1)] := by
  rw [List.getElem?_map, mkSg, List.getElem?_map, List.getElem?_range h]; rfl
theorem set_mid {α : Type} {A B : List α} {x y : α} {i : Nat} (h : A.length = i) : (A ++ x :: B).set i y = A ++ y :: B := by subst h; simp
theorem get_mid {α : Type} {A B : List α} {x : α} {i : Nat} (h : A.length = i) : (A ++ x :: B)[i]? = some x := by subst h; simp
theorem tx_cut {l : List (List UInt8)} {k : Int} {i : Nat} (h : i < l.length) : strL (mkTx k i ++ l.drop i) = strL (mkTx k i) ++ [dS (bstr l[i])] :: strL (l.drop (i + 1)) := by
  rw [List.drop_eq_getElem_cons h, strL, List.map_append]; rfl
theorem tx_set {l : List (List UInt8)} {k : Int} {i : Nat} (h : i < l.length) : (strL (mkTx k i ++ l.drop i)).set i [dS (bstr (mtx (k + i)))] = strL (mkTx k (i + 1) ++ l.drop (i + 1)) := by
  rw [tx_cut h, set_mid (by rw [strL_len, mkTx_len]), mkTx_succ]
  simp only [strL, List.map_append, List.map_cons, List.map_nil, List.append_assoc, List.cons_append, List.nil_append]
theorem tx_get {l : List (List UInt8)} {k : Int} {i : Nat} (h : i < l.length) : (strL (mkTx k i ++ l.drop i))[i]? = some [dS (bstr l[i])] := by
  rw [tx_cut h]
  exact get_mid (by rw [strL_len, mkTx_len])
theorem sg_cut {l : List Sig} {k : Int} {i : Nat} (h : i < l.length) : sigsL (mkSg k i ++ l.drop i) = sigsL (mkSg k i) ++ sigD l[i] :: sigsL (l.drop (i + 1)) := by
  rw [List.drop_eq_getElem_cons h, sigsL, List.map_append]; rfl
theorem sg_set {l : List Sig} {k : Int} {i : Nat} {r : List DV} (h : i < l.length) : ((sigsL (mkSg k i ++ l.drop i)).set i r).set i [dS (bstr (mtx (k + 2 * i))), dI (k + 2 * i + 1)] = sigsL (mkSg k (i + 1) ++ l.drop (i + 1)) := by
  rw [List.set_set, sg_cut h, set_mid (by rw [sigsL_len, mkSg_len]), mkSg_succ]
  simp only [sigsL, List.map_append, List.map_cons, List.map_nil, List.append_assoc, List.cons_append, List.nil_append]
theorem sg_get {l : List Sig} {k : Int} {i : Nat} (h : i < l.length) : (sigsL (mkSg k i ++ l.drop i))[i]? = some (sigD l[i]) := by
  rw [sg_cut h]
  exact get_mid (by rw [sigsL_len, mkSg_len])
theorem set_at2 {E : List (List DV)} {i : Nat} {c c' : List DV} (h : E[i]? = some c) : (E.set i c')[i]? = some c' := List.getElem?_set_self (List.getElem?_eq_some_iff.1 h).1
set_option maxHeartbeats 2000000 in
theorem markStringS_O (l : List (List UInt8)) (k : Int) (hl : l.length ≤ 1048576) (hk : 0 ≤ k ∧ k + l.length ≤ 1073741824) : ASpec Try.prog 10 [.own 0 l.length, aI k] [(0, .arr 9 1 (strL l))] (Fun1 (aI (k + l.length)) [(0, .arr 9 1 (strL (mkTx k l.length)))]) := by
  refine ASpec.of Try.func10 rfl rfl fun C hC => ?_
  refine AC.seq ?_
  refine AC.region ?_
  refine AL.p (by first | exact as1 rfl | exact as2 rfl | exact as3 rfl | exact as4 rfl | exact as5 rfl | exact as6 rfl | exact as7 rfl | exact as8 rfl | exact as9 rfl | exact as10 rfl | exact as11 rfl) rfl ?_
  refine AL.nil ?_
  refine th_n ?_
  refine AC.seq ?_
  refine AC.seq ?_
  refine AC.region ?_
  refine AL.p (by first | exact as1 rfl | exact as2 rfl | exact as3 rfl | exact as4 rfl | exact as5 rfl | exact as6 rfl | exact as7 rfl | exact as8 rfl | exact as9 rfl | exact as10 rfl | exact as11 rfl) rfl ?_
  refine AL.nil ?_
  refine th_n ?_
  refine AC.block ?_
  refine AC.loop (ι := Nat) (fun i => ⟨20, 108, [(0, .own 0 l.length), (1, aI (k + i)), (5, aI i)], [(0, some (.arr 9 1 (strL (mkTx k i ++ l.drop i))))]⟩) (fun i => i ≤ l.length) (fun i => l.length - i) (0) ?_ (Nat.zero_le _) ?_
  · exact Weak.ren _ [] hC rfl (by rw [show k + ((0 : Nat) : Int) = k by omega]; repeat (first | exact True.intro | refine And.intro ?_ ?_ | exact DLead.same | exact DLead.eqI (by omega) | exact DLead.eqI (by dsimp only; omega) | exact DLead.nil | exact rfl | refine ⟨_, _, rfl, rfl, ?_⟩ | refine ⟨_, rfl, ?_⟩ | refine ⟨_, _, rfl, ?_, ?_⟩)) (by repeat (first | exact True.intro | refine And.intro ?_ ?_ | exact DLead.same | exact DLead.eqI (by omega) | exact DLead.eqI (by dsimp only; omega) | exact DLead.nil | exact rfl | refine ⟨_, _, rfl, rfl, ?_⟩ | refine ⟨_, rfl, ?_⟩ | refine ⟨_, _, rfl, ?_, ?_⟩)) rfl rfl rfl
  · intro i hi
    refine AC.seq ?_
    refine AC.seq ?_
    refine AC.region ?_
    refine AL.p (by first | exact mv1 rfl | exact mv2 rfl | exact mv3 rfl | exact mv4 rfl | exact mv5 rfl | exact mv6 rfl | exact mv7 rfl | exact mv8 rfl | exact mv9 rfl | exact mv10 rfl | exact mv11 rfl) rfl ?_
    refine AL.p (by first | exact mv1 rfl | exact mv2 rfl | exact mv3 rfl | exact mv4 rfl | exact mv5 rfl | exact mv6 rfl | exact mv7 rfl | exact mv8 rfl | exact mv9 rfl | exact mv10 rfl | exact mv11 rfl) rfl ?_
    refine AL.p (by first | exact g_len_view rfl rfl (by first | exact List.length_map _ | rfl) | exact g_len_str rfl rfl rfl | exact g_len_nil rfl rfl | exact g_len_own (sz := 1) (els := []) (e' := 0) rfl rfl (by simp only [maxLen]; omega) | exact g_len_tight rfl rfl (by first | exact List.length_map _ | rfl)) rfl ?_
    refine AL.p (by first | exact g_cmp rfl rfl rfl | exact g_scmp rfl rfl rfl | exact g_eqB rfl rfl rfl | exact g_neB rfl rfl rfl) rfl ?_
    refine AL.nil ?_
    refine th_n ?_
    first | refine AC.condD rfl (fun h0 => ?_) (fun h0 => ?_) | refine AC.condND rfl (fun h0 => ?_) (fun h0 => ?_) | refine AC.condB rfl (fun h0 => ?_) (fun h0 => ?_) | refine AC.condNB rfl (fun h0 => ?_) (fun h0 => ?_)
    · refine AC.skip ?_
      refine th_n ?_
      refine AC.seq ?_
      refine AC.block ?_
      refine AC.seq ?_
      have hi1 : i < l.length := by omega
      have hget := tx_get (k := k) hi1
      have hst := tx_set (k := k) hi1
      have hM := markText_spec (k + i) (by omega)
      refine AC.region ?_
      refine AL.p (by first | exact mv1 rfl | exact mv2 rfl | exact mv3 rfl | exact mv4 rfl | exact mv5 rfl | exact mv6 rfl | exact mv7 rfl | exact mv8 rfl | exact mv9 rfl | exact mv10 rfl | exact mv11 rfl) rfl ?_
      refine AL.p (by first | exact mv1 rfl | exact mv2 rfl | exact mv3 rfl | exact mv4 rfl | exact mv5 rfl | exact mv6 rfl | exact mv7 rfl | exact mv8 rfl | exact mv9 rfl | exact mv10 rfl | exact mv11 rfl) rfl ?_
      refine AL.p (by first | exact mv1 rfl | exact mv2 rfl | exact mv3 rfl | exact mv4 rfl | exact mv5 rfl | exact mv6 rfl | exact mv7 rfl | exact mv8 rfl | exact mv9 rfl | exact mv10 rfl | exact mv11 rfl) rfl ?_
      refine AL.q (by exact h_pure en_markText rfl rfl (by repeat (first | exact rfl | exact DLead.same | exact DLead.nil | refine ⟨_, _, rfl, ?_, ?_⟩ | refine ⟨_, rfl, ?_⟩)) hM rfl) rfl ?_
      refine AL.p (by first | exact g_ia_view rfl rfl rfl rfl rfl (by first | rfl | assumption) (by first | assumption | rfl) | exact g_ia_own rfl rfl rfl rfl rfl (by first | rfl | assumption) (by omega) (by first | exact Nat.mul_one _ | rfl | omega)) rfl ?_
      refine AL.q (by exact h_store_arr (i := i) (j := 0) (cs := [dS (bstr l[i])]) (d := dS (bstr (mtx (k + i)))) rfl rfl rfl rfl .same (by omega) hget (by simp)) rfl ?_
      refine AL.nil ?_
      refine th_n ?_
      refine AC.region ?_
      refine AL.p (by first | exact mv1 rfl | exact mv2 rfl | exact mv3 rfl | exact mv4 rfl | exact mv5 rfl | exact mv6 rfl | exact mv7 rfl | exact mv8 rfl | exact mv9 rfl | exact mv10 rfl | exact mv11 rfl) rfl ?_
      refine AL.p (by first | exact g_arith rfl rfl rfl (by first | exact wrap_i64 (by omega) | exact wrap_u8 (by omega) | exact wrap_u64 (by omega) | rfl) | exact g_sadd rfl rfl (by first | assumption | omega | (simp only [ByteArray.size_append, bstr_size, List.length_take, List.length_drop, List.length_cons, List.length_nil]; omega))) rfl ?_
      refine AL.p (by first | exact as1 rfl | exact as2 rfl | exact as3 rfl | exact as4 rfl | exact as5 rfl | exact as6 rfl | exact as7 rfl | exact as8 rfl | exact as9 rfl | exact as10 rfl | exact as11 rfl) rfl ?_
      refine AL.nil ?_
      refine ib_n ?_
      refine th_n ?_
      refine AC.region ?_
      refine AL.p (by first | exact mv1 rfl | exact mv2 rfl | exact mv3 rfl | exact mv4 rfl | exact mv5 rfl | exact mv6 rfl | exact mv7 rfl | exact mv8 rfl | exact mv9 rfl | exact mv10 rfl | exact mv11 rfl) rfl ?_
      refine AL.p (by first | exact g_arith rfl rfl rfl (by first | exact wrap_i64 (by omega) | exact wrap_u8 (by omega) | exact wrap_u64 (by omega) | rfl) | exact g_sadd rfl rfl (by first | assumption | omega | (simp only [ByteArray.size_append, bstr_size, List.length_take, List.length_drop, List.length_cons, List.length_nil]; omega))) rfl ?_
      refine AL.p (by first | exact as1 rfl | exact as2 rfl | exact as3 rfl | exact as4 rfl | exact as5 rfl | exact as6 rfl | exact as7 rfl | exact as8 rfl | exact as9 rfl | exact as10 rfl | exact as11 rfl) rfl ?_
      refine AL.nil ?_
      refine th_n ?_
      exact ⟨i + 1, hi1, by omega, Weak.ren _ [] hC rfl (by rw [show k + ((i + 1 : Nat) : Int) = k + i + 1 by omega]; repeat (first | exact True.intro | refine And.intro ?_ ?_ | exact DLead.same | exact DLead.eqI (by omega) | exact DLead.eqI (by dsimp only; omega) | exact DLead.nil | exact rfl | refine ⟨_, _, rfl, rfl, ?_⟩ | refine ⟨_, rfl, ?_⟩ | refine ⟨_, _, rfl, ?_, ?_⟩)) (by rw [← hst]; repeat (first | exact True.intro | refine And.intro ?_ ?_ | exact DLead.same | exact DLead.eqI (by omega) | exact DLead.eqI (by dsimp only; omega) | exact DLead.nil | exact rfl | refine ⟨_, _, rfl, rfl, ?_⟩ | refine ⟨_, rfl, ?_⟩ | refine ⟨_, _, rfl, ?_, ?_⟩)) rfl rfl rfl⟩
    · refine AC.exit ?_
      refine th_e ?_
      refine th_e ?_
      refine ib_y ?_
      refine th_n ?_
      refine AC.seq ?_
      refine AC.region ?_
      refine AL.p (by first | exact mv1 rfl | exact mv2 rfl | exact mv3 rfl | exact mv4 rfl | exact mv5 rfl | exact mv6 rfl | exact mv7 rfl | exact mv8 rfl | exact mv9 rfl | exact mv10 rfl | exact mv11 rfl) rfl ?_
      refine AL.p (by first | exact as1 rfl | exact as2 rfl | exact as3 rfl | exact as4 rfl | exact as5 rfl | exact as6 rfl | exact as7 rfl | exact as8 rfl | exact as9 rfl | exact as10 rfl | exact as11 rfl) rfl ?_
      refine AL.nil ?_
      refine th_n ?_
      refine AC.ret ?_
      refine bq_r ?_
      obtain rfl : i = l.length := by omega
      exact retX [] rfl ⟨rfl, rfl⟩ (by repeat (first | exact True.intro | refine And.intro ?_ ?_ | exact DLead.same | exact DLead.eqI (by omega) | exact DLead.eqI (by dsimp only; omega) | exact DLead.nil | exact rfl | refine ⟨_, _, rfl, rfl, ?_⟩ | refine ⟨_, rfl, ?_⟩ | refine ⟨_, _, rfl, ?_, ?_⟩)) (by rw [List.drop_length, List.append_nil]; repeat (first | exact True.intro | refine And.intro ?_ ?_ | exact DLead.same | exact DLead.eqI (by omega) | exact DLead.eqI (by dsimp only; omega) | exact DLead.nil | exact rfl | refine ⟨_, _, rfl, rfl, ?_⟩ | refine ⟨_, rfl, ?_⟩ | refine ⟨_, _, rfl, ?_, ?_⟩)) rfl rfl
theorem en_markStringS : Enters Try.prog 10 := enters_of Try.func10 rfl rfl
set_option maxHeartbeats 2000000 in
theorem markSigS_O (l : List Sig) (k : Int) (hl : l.length ≤ 1048576) (hk : 0 ≤ k ∧ k + 2 * l.length ≤ 1073741824) : ASpec Try.prog 11 [.own 0 l.length, aI k] [(0, .arr 43 2 (sigsL l))] (Fun1 (aI (k + 2 * l.length)) [(0, .arr 43 2 (sigsL (mkSg k l.length)))]) := by
  refine ASpec.of Try.func11 rfl rfl fun C hC => ?_
  refine AC.seq ?_
  refine AC.region ?_
  refine AL.p (by first | exact as1 rfl | exact as2 rfl | exact as3 rfl | exact as4 rfl | exact as5 rfl | exact as6 rfl | exact as7 rfl | exact as8 rfl | exact as9 rfl | exact as10 rfl | exact as11 rfl) rfl ?_
  refine AL.nil ?_
  refine th_n ?_
  refine AC.seq ?_
  refine AC.seq ?_
  refine AC.region ?_
  refine AL.p (by first | exact as1 rfl | exact as2 rfl | exact as3 rfl | exact as4 rfl | exact as5 rfl | exact as6 rfl | exact as7 rfl | exact as8 rfl | exact as9 rfl | exact as10 rfl | exact as11 rfl) rfl ?_
  refine AL.nil ?_
  refine th_n ?_
  refine AC.block ?_
  refine AC.loop (ι := Nat) (fun i => ⟨28, 108, [(0, .own 0 l.length), (1, aI (k + 2 * i)), (5, aI i)], [(0, some (.arr 43 2 (sigsL (mkSg k i ++ l.drop i))))]⟩) (fun i => i ≤ l.length) (fun i => l.length - i) (0) ?_ (Nat.zero_le _) ?_
  · exact Weak.ren _ [] hC rfl (by rw [show k + 2 * ((0 : Nat) : Int) = k by omega]; repeat (first | exact True.intro | refine And.intro ?_ ?_ | exact DLead.same | exact DLead.eqI (by omega) | exact DLead.eqI (by dsimp only; omega) | exact DLead.nil | exact rfl | refine ⟨_, _, rfl, rfl, ?_⟩ | refine ⟨_, rfl, ?_⟩ | refine ⟨_, _, rfl, ?_, ?_⟩)) (by repeat (first | exact True.intro | refine And.intro ?_ ?_ | exact DLead.same | exact DLead.eqI (by omega) | exact DLead.eqI (by dsimp only; omega) | exact DLead.nil | exact rfl | refine ⟨_, _, rfl, rfl, ?_⟩ | refine ⟨_, rfl, ?_⟩ | refine ⟨_, _, rfl, ?_, ?_⟩)) rfl rfl rfl
  · intro i hi
    refine AC.seq ?_
    refine AC.seq ?_
    refine AC.region ?_
    refine AL.p (by first | exact mv1 rfl | exact mv2 rfl | exact mv3 rfl | exact mv4 rfl | exact mv5 rfl | exact mv6 rfl | exact mv7 rfl | exact mv8 rfl | exact mv9 rfl | exact mv10 rfl | exact mv11 rfl) rfl ?_
    refine AL.p (by first | exact mv1 rfl | exact mv2 rfl | exact mv3 rfl | exact mv4 rfl | exact mv5 rfl | exact mv6 rfl | exact mv7 rfl | exact mv8 rfl | exact mv9 rfl | exact mv10 rfl | exact mv11 rfl) rfl ?_
    refine AL.p (by first | exact g_len_view rfl rfl (by first | exact List.length_map _ | rfl) | exact g_len_str rfl rfl rfl | exact g_len_nil rfl rfl | exact g_len_own (sz := 1) (els := []) (e' := 0) rfl rfl (by simp only [maxLen]; omega) | exact g_len_tight rfl rfl (by first | exact List.length_map _ | rfl)) rfl ?_
    refine AL.p (by first | exact g_cmp rfl rfl rfl | exact g_scmp rfl rfl rfl | exact g_eqB rfl rfl rfl | exact g_neB rfl rfl rfl) rfl ?_
    refine AL.nil ?_
    refine th_n ?_
    first | refine AC.condD rfl (fun h0 => ?_) (fun h0 => ?_) | refine AC.condND rfl (fun h0 => ?_) (fun h0 => ?_) | refine AC.condB rfl (fun h0 => ?_) (fun h0 => ?_) | refine AC.condNB rfl (fun h0 => ?_) (fun h0 => ?_)
    · refine AC.skip ?_
      refine th_n ?_
      refine AC.seq ?_
      refine AC.block ?_
      refine AC.seq ?_
      have hi1 : i < l.length := by omega
      have hget := sg_get (k := k) hi1
      have hget2 := set_at2 (c' := [dS (bstr (mtx (k + 2 * i))), dI l[i].kind]) hget
      have hst := sg_set (k := k) (r := [dS (bstr (mtx (k + 2 * i))), dI l[i].kind]) hi1
      have hM := markText_spec (k + 2 * i) (by omega)
      refine AC.region ?_
      refine AL.p (by first | exact mv1 rfl | exact mv2 rfl | exact mv3 rfl | exact mv4 rfl | exact mv5 rfl | exact mv6 rfl | exact mv7 rfl | exact mv8 rfl | exact mv9 rfl | exact mv10 rfl | exact mv11 rfl) rfl ?_
      refine AL.p (by first | exact mv1 rfl | exact mv2 rfl | exact mv3 rfl | exact mv4 rfl | exact mv5 rfl | exact mv6 rfl | exact mv7 rfl | exact mv8 rfl | exact mv9 rfl | exact mv10 rfl | exact mv11 rfl) rfl ?_
      refine AL.p (by first | exact mv1 rfl | exact mv2 rfl | exact mv3 rfl | exact mv4 rfl | exact mv5 rfl | exact mv6 rfl | exact mv7 rfl | exact mv8 rfl | exact mv9 rfl | exact mv10 rfl | exact mv11 rfl) rfl ?_
      refine AL.q (by exact h_pure en_markText rfl rfl (by repeat (first | exact rfl | exact DLead.same | exact DLead.nil | refine ⟨_, _, rfl, ?_, ?_⟩ | refine ⟨_, rfl, ?_⟩)) hM rfl) rfl ?_
      refine AL.p (by first | exact g_ia_view rfl rfl rfl rfl rfl (by first | rfl | assumption) (by first | assumption | rfl) | exact g_ia_own rfl rfl rfl rfl rfl (by first | rfl | assumption) (by omega) (by first | exact Nat.mul_one _ | rfl | omega)) rfl ?_
      refine AL.p (by first | exact g_fa_ref rfl rfl rfl rfl rfl rfl | exact g_fa_ptr rfl rfl rfl rfl rfl) rfl ?_
      refine AL.q (by exact h_store_arr (i := i) (j := 0) (cs := [dS (bstr l[i].name), dI l[i].kind]) (d := dS (bstr (mtx (k + 2 * i)))) rfl rfl rfl rfl .same rfl hget (by simp)) rfl ?_
      refine AL.nil ?_
      refine th_n ?_
      refine AC.seq ?_
      refine AC.region ?_
      refine AL.p (by first | exact mv1 rfl | exact mv2 rfl | exact mv3 rfl | exact mv4 rfl | exact mv5 rfl | exact mv6 rfl | exact mv7 rfl | exact mv8 rfl | exact mv9 rfl | exact mv10 rfl | exact mv11 rfl) rfl ?_
      refine AL.p (by first | exact g_arith rfl rfl rfl (by first | exact wrap_i64 (by omega) | exact wrap_u8 (by omega) | exact wrap_u64 (by omega) | rfl) | exact g_sadd rfl rfl (by first | assumption | omega | (simp only [ByteArray.size_append, bstr_size, List.length_take, List.length_drop, List.length_cons, List.length_nil]; omega))) rfl ?_
      refine AL.p (by first | exact as1 rfl | exact as2 rfl | exact as3 rfl | exact as4 rfl | exact as5 rfl | exact as6 rfl | exact as7 rfl | exact as8 rfl | exact as9 rfl | exact as10 rfl | exact as11 rfl) rfl ?_
      refine AL.nil ?_
      refine th_n ?_
      refine AC.seq ?_
      refine AC.region ?_
      refine AL.p (by first | exact mv1 rfl | exact mv2 rfl | exact mv3 rfl | exact mv4 rfl | exact mv5 rfl | exact mv6 rfl | exact mv7 rfl | exact mv8 rfl | exact mv9 rfl | exact mv10 rfl | exact mv11 rfl) rfl ?_
      refine AL.p (by first | exact mv1 rfl | exact mv2 rfl | exact mv3 rfl | exact mv4 rfl | exact mv5 rfl | exact mv6 rfl | exact mv7 rfl | exact mv8 rfl | exact mv9 rfl | exact mv10 rfl | exact mv11 rfl) rfl ?_
      refine AL.p (by first | exact mv1 rfl | exact mv2 rfl | exact mv3 rfl | exact mv4 rfl | exact mv5 rfl | exact mv6 rfl | exact mv7 rfl | exact mv8 rfl | exact mv9 rfl | exact mv10 rfl | exact mv11 rfl) rfl ?_
      refine AL.p (by first | exact g_ia_view rfl rfl rfl rfl rfl (by first | rfl | assumption) (by first | assumption | rfl) | exact g_ia_own rfl rfl rfl rfl rfl (by first | rfl | assumption) (by omega) (by first | exact Nat.mul_one _ | rfl | omega)) rfl ?_
      refine AL.p (by first | exact g_fa_ref rfl rfl rfl rfl rfl rfl | exact g_fa_ptr rfl rfl rfl rfl rfl) rfl ?_
      refine AL.q (by exact h_store_arr (i := i) (j := 1) (cs := [dS (bstr (mtx (k + 2 * i))), dI l[i].kind]) (d := dI (k + 2 * i + 1)) rfl rfl rfl rfl .same rfl hget2 (by simp)) rfl ?_
      refine AL.nil ?_
      refine th_n ?_
      refine AC.region ?_
      refine AL.p (by first | exact mv1 rfl | exact mv2 rfl | exact mv3 rfl | exact mv4 rfl | exact mv5 rfl | exact mv6 rfl | exact mv7 rfl | exact mv8 rfl | exact mv9 rfl | exact mv10 rfl | exact mv11 rfl) rfl ?_
      refine AL.p (by first | exact g_arith rfl rfl rfl (by first | exact wrap_i64 (by omega) | exact wrap_u8 (by omega) | exact wrap_u64 (by omega) | rfl) | exact g_sadd rfl rfl (by first | assumption | omega | (simp only [ByteArray.size_append, bstr_size, List.length_take, List.length_drop, List.length_cons, List.length_nil]; omega))) rfl ?_
      refine AL.p (by first | exact as1 rfl | exact as2 rfl | exact as3 rfl | exact as4 rfl | exact as5 rfl | exact as6 rfl | exact as7 rfl | exact as8 rfl | exact as9 rfl | exact as10 rfl | exact as11 rfl) rfl ?_
      refine AL.nil ?_
      refine ib_n ?_
      refine th_n ?_
      refine AC.region ?_
      refine AL.p (by first | exact mv1 rfl | exact mv2 rfl | exact mv3 rfl | exact mv4 rfl | exact mv5 rfl | exact mv6 rfl | exact mv7 rfl | exact mv8 rfl | exact mv9 rfl | exact mv10 rfl | exact mv11 rfl) rfl ?_
      refine AL.p (by first | exact g_arith rfl rfl rfl (by first | exact wrap_i64 (by omega) | exact wrap_u8 (by omega) | exact wrap_u64 (by omega) | rfl) | exact g_sadd rfl rfl (by first | assumption | omega | (simp only [ByteArray.size_append, bstr_size, List.length_take, List.length_drop, List.length_cons, List.length_nil]; omega))) rfl ?_
      refine AL.p (by first | exact as1 rfl | exact as2 rfl | exact as3 rfl | exact as4 rfl | exact as5 rfl | exact as6 rfl | exact as7 rfl | exact as8 rfl | exact as9 rfl | exact as10 rfl | exact as11 rfl) rfl ?_
      refine AL.nil ?_
      refine th_n ?_
      exact ⟨i + 1, hi1, by omega, Weak.ren _ [] hC rfl (by rw [show k + 2 * ((i + 1 : Nat) : Int) = k + 2 * i + 1 + 1 by omega]; repeat (first | exact True.intro | refine And.intro ?_ ?_ | exact DLead.same | exact DLead.eqI (by omega) | exact DLead.eqI (by dsimp only; omega) | exact DLead.nil | exact rfl | refine ⟨_, _, rfl, rfl, ?_⟩ | refine ⟨_, rfl, ?_⟩ | refine ⟨_, _, rfl, ?_, ?_⟩)) (by rw [← hst]; repeat (first | exact True.intro | refine And.intro ?_ ?_ | exact DLead.same | exact DLead.eqI (by omega) | exact DLead.eqI (by dsimp only; omega) | exact DLead.nil | exact rfl | refine ⟨_, _, rfl, rfl, ?_⟩ | refine ⟨_, rfl, ?_⟩ | refine ⟨_, _, rfl, ?_, ?_⟩)) rfl rfl rfl⟩
    · refine AC.exit ?_
      refine th_e ?_
      refine th_e ?_
      refine ib_y ?_
      refine th_n ?_
      refine AC.seq ?_
      refine AC.region ?_
      refine AL.p (by first | exact mv1 rfl | exact mv2 rfl | exact mv3 rfl | exact mv4 rfl | exact mv5 rfl | exact mv6 rfl | exact mv7 rfl | exact mv8 rfl | exact mv9 rfl | exact mv10 rfl | exact mv11 rfl) rfl ?_
      refine AL.p (by first | exact as1 rfl | exact as2 rfl | exact as3 rfl | exact as4 rfl | exact as5 rfl | exact as6 rfl | exact as7 rfl | exact as8 rfl | exact as9 rfl | exact as10 rfl | exact as11 rfl) rfl ?_
      refine AL.nil ?_
      refine th_n ?_
      refine AC.ret ?_
      refine bq_r ?_
      obtain rfl : i = l.length := by omega
      exact retX [] rfl ⟨rfl, rfl⟩ (by repeat (first | exact True.intro | refine And.intro ?_ ?_ | exact DLead.same | exact DLead.eqI (by omega) | exact DLead.eqI (by dsimp only; omega) | exact DLead.nil | exact rfl | refine ⟨_, _, rfl, rfl, ?_⟩ | refine ⟨_, rfl, ?_⟩ | refine ⟨_, _, rfl, ?_, ?_⟩)) (by rw [List.drop_length, List.append_nil]; repeat (first | exact True.intro | refine And.intro ?_ ?_ | exact DLead.same | exact DLead.eqI (by omega) | exact DLead.eqI (by dsimp only; omega) | exact DLead.nil | exact rfl | refine ⟨_, _, rfl, rfl, ?_⟩ | refine ⟨_, rfl, ?_⟩ | refine ⟨_, _, rfl, ?_, ?_⟩)) rfl rfl
theorem en_markSigS : Enters Try.prog 11 := enters_of Try.func11 rfl rfl
set_option maxHeartbeats 2000000 in
theorem heldSigS_spec (n : Nat) (k : Int) (hl : n ≤ 1048576) (hk : 0 ≤ k ∧ k + 2 * n ≤ 1073741824) : ASpec Try.prog 12 [.d (vSigs (mkSg k n)), aI k] [] (Pure1 (aI (k + 2 * n))) := by
  have hlen := mkSg_len k n
  refine ASpec.of Try.func12 rfl rfl fun C hC => ?_
  refine AC.seq ?_
  refine AC.region ?_
  refine AL.p (by first | exact as1 rfl | exact as2 rfl | exact as3 rfl | exact as4 rfl | exact as5 rfl | exact as6 rfl | exact as7 rfl | exact as8 rfl | exact as9 rfl | exact as10 rfl | exact as11 rfl) rfl ?_
  refine AL.nil ?_
  refine th_n ?_
  refine AC.seq ?_
  refine AC.seq ?_
  refine AC.region ?_
  refine AL.p (by first | exact as1 rfl | exact as2 rfl | exact as3 rfl | exact as4 rfl | exact as5 rfl | exact as6 rfl | exact as7 rfl | exact as8 rfl | exact as9 rfl | exact as10 rfl | exact as11 rfl) rfl ?_
  refine AL.nil ?_
  refine th_n ?_
  refine AC.block ?_
  refine AC.loop (ι := Nat) (fun i => ⟨32, 100, [(0, .d (vSigs (mkSg k n))), (1, aI (k + 2 * i)), (5, aI i)], []⟩) (fun i => i ≤ n) (fun i => n - i) (0) ?_ (Nat.zero_le _) ?_
  · exact Weak.ren _ [] hC rfl (by rw [show k + 2 * ((0 : Nat) : Int) = k by omega]; repeat (first | exact True.intro | refine And.intro ?_ ?_ | exact DLead.same | exact DLead.eqI (by omega) | exact DLead.eqI (by dsimp only; omega) | exact DLead.nil | exact rfl | refine ⟨_, _, rfl, rfl, ?_⟩ | refine ⟨_, rfl, ?_⟩ | refine ⟨_, _, rfl, ?_, ?_⟩)) (by repeat (first | exact True.intro | refine And.intro ?_ ?_ | exact DLead.same | exact DLead.eqI (by omega) | exact DLead.eqI (by dsimp only; omega) | exact DLead.nil | exact rfl | refine ⟨_, _, rfl, rfl, ?_⟩ | refine ⟨_, rfl, ?_⟩ | refine ⟨_, _, rfl, ?_, ?_⟩)) rfl rfl rfl
  · intro i hi
    refine AC.seq ?_
    refine AC.seq ?_
    refine AC.region ?_
    refine AL.p (by first | exact mv1 rfl | exact mv2 rfl | exact mv3 rfl | exact mv4 rfl | exact mv5 rfl | exact mv6 rfl | exact mv7 rfl | exact mv8 rfl | exact mv9 rfl | exact mv10 rfl | exact mv11 rfl) rfl ?_
    refine AL.p (by first | exact mv1 rfl | exact mv2 rfl | exact mv3 rfl | exact mv4 rfl | exact mv5 rfl | exact mv6 rfl | exact mv7 rfl | exact mv8 rfl | exact mv9 rfl | exact mv10 rfl | exact mv11 rfl) rfl ?_
    refine AL.p (by exact g_len_view (k := n) rfl rfl (by rw [sigsL_len, hlen])) rfl ?_
    refine AL.p (by first | exact g_cmp rfl rfl rfl | exact g_scmp rfl rfl rfl | exact g_eqB rfl rfl rfl | exact g_neB rfl rfl rfl) rfl ?_
    refine AL.nil ?_
    refine th_n ?_
    first | refine AC.condD rfl (fun h0 => ?_) (fun h0 => ?_) | refine AC.condND rfl (fun h0 => ?_) (fun h0 => ?_) | refine AC.condB rfl (fun h0 => ?_) (fun h0 => ?_) | refine AC.condNB rfl (fun h0 => ?_) (fun h0 => ?_)
    · refine AC.skip ?_
      refine th_n ?_
      refine AC.seq ?_
      refine AC.block ?_
      refine AC.seq ?_
      refine AC.seq ?_
      have hi1 : i < n := by omega
      have hget := mkSg_get (k := k) hi1
      have hM := markText_spec (k + 2 * i) (by omega)
      refine AC.drawn' mixed_ok [[], [], [0,1], [0,1,2], [0,1,2,3], [], [5], [0,1,2,3,4,5,6]] (by decide) ?_
      refine DF.op 0 [] 8 rfl rfl rfl (.free rfl (NOp.of (by first | exact mv1 rfl | exact mv2 rfl | exact mv3 rfl | exact mv4 rfl | exact mv5 rfl | exact mv6 rfl | exact mv7 rfl | exact mv8 rfl | exact mv9 rfl | exact mv10 rfl | exact mv11 rfl))) rfl ?_
      refine DF.op 1 [] 8 rfl rfl rfl (.free rfl (NOp.of (by first | exact mv1 rfl | exact mv2 rfl | exact mv3 rfl | exact mv4 rfl | exact mv5 rfl | exact mv6 rfl | exact mv7 rfl | exact mv8 rfl | exact mv9 rfl | exact mv10 rfl | exact mv11 rfl))) rfl ?_
      refine DF.op 2 [0,1] 8 rfl rfl rfl (.free rfl (NOp.of (by first | exact g_ia_view rfl rfl rfl rfl rfl (by first | rfl | assumption) (by first | assumption | rfl) | exact g_ia_own rfl rfl rfl rfl rfl (by first | rfl | assumption) (by omega) (by first | exact Nat.mul_one _ | rfl | omega)))) rfl ?_
      refine DF.op 3 [0,1,2] 8 rfl rfl rfl (.free rfl (NOp.of (by first | exact g_fa_ref rfl rfl rfl rfl rfl rfl | exact g_fa_ptr rfl rfl rfl rfl rfl))) rfl ?_
      refine DF.op 4 [0,1,2,3] 8 rfl rfl rfl (.free rfl (NOp.of (by first | exact g_load_ref rfl rfl rfl | exact g_load_ptr rfl rfl rfl rfl rfl | exact g_load_refN rfl rfl rfl rfl | exact g_load_ptrN rfl rfl rfl rfl rfl | exact g_load_arr1 rfl rfl rfl rfl (by assumption) | exact g_load_arr rfl rfl rfl rfl (by first | rfl | omega) (by first | assumption | rfl) (by first | assumption | rfl)))) rfl ?_
      refine DF.op 5 [] 8 rfl rfl rfl (.free rfl (NOp.of (by first | exact mv1 rfl | exact mv2 rfl | exact mv3 rfl | exact mv4 rfl | exact mv5 rfl | exact mv6 rfl | exact mv7 rfl | exact mv8 rfl | exact mv9 rfl | exact mv10 rfl | exact mv11 rfl))) rfl ?_
      refine DF.op 6 [5] 8 rfl rfl rfl (.free rfl (by exact h_pure en_markText rfl rfl (by repeat (first | exact rfl | exact DLead.same | exact DLead.nil | refine ⟨_, _, rfl, ?_, ?_⟩ | refine ⟨_, rfl, ?_⟩)) hM rfl)) rfl ?_
      refine DF.op 7 [0,1,2,3,4,5,6] 8 rfl rfl rfl (.free rfl (NOp.of (by exact g_neSr rfl rfl rfl))) rfl ?_
      refine DF.fin (ps := [(0, 1), (0, 5), (0, 6), (1, 0), (1, 5), (1, 6), (2, 5), (2, 6), (3, 5), (3, 6), (4, 5), (4, 6), (5, 0), (5, 1), (5, 2), (5, 3), (5, 4), (6, 0), (6, 1), (6, 2), (6, 3), (6, 4)]) 8 rfl (by decide +kernel) (by decide +kernel) (by rfl) ?_
      refine th_n ?_
      refine AC.condF rfl ?_
      refine AC.skip ?_
      refine th_n ?_
      refine AC.seq ?_
      refine AC.region ?_
      refine AL.p (by first | exact mv1 rfl | exact mv2 rfl | exact mv3 rfl | exact mv4 rfl | exact mv5 rfl | exact mv6 rfl | exact mv7 rfl | exact mv8 rfl | exact mv9 rfl | exact mv10 rfl | exact mv11 rfl) rfl ?_
      refine AL.p (by first | exact g_arith rfl rfl rfl (by first | exact wrap_i64 (by omega) | exact wrap_u8 (by omega) | exact wrap_u64 (by omega) | rfl) | exact g_sadd rfl rfl (by first | assumption | omega | (simp only [ByteArray.size_append, bstr_size, List.length_take, List.length_drop, List.length_cons, List.length_nil]; omega))) rfl ?_
      refine AL.p (by first | exact as1 rfl | exact as2 rfl | exact as3 rfl | exact as4 rfl | exact as5 rfl | exact as6 rfl | exact as7 rfl | exact as8 rfl | exact as9 rfl | exact as10 rfl | exact as11 rfl) rfl ?_
      refine AL.nil ?_
      refine th_n ?_
      refine AC.seq ?_
      refine AC.seq ?_
      refine AC.region ?_
      refine AL.p (by first | exact mv1 rfl | exact mv2 rfl | exact mv3 rfl | exact mv4 rfl | exact mv5 rfl | exact mv6 rfl | exact mv7 rfl | exact mv8 rfl | exact mv9 rfl | exact mv10 rfl | exact mv11 rfl) rfl ?_
      refine AL.p (by first | exact mv1 rfl | exact mv2 rfl | exact mv3 rfl | exact mv4 rfl | exact mv5 rfl | exact mv6 rfl | exact mv7 rfl | exact mv8 rfl | exact mv9 rfl | exact mv10 rfl | exact mv11 rfl) rfl ?_
      refine AL.p (by first | exact g_ia_view rfl rfl rfl rfl rfl (by first | rfl | assumption) (by first | assumption | rfl) | exact g_ia_own rfl rfl rfl rfl rfl (by first | rfl | assumption) (by omega) (by first | exact Nat.mul_one _ | rfl | omega)) rfl ?_
      refine AL.p (by first | exact g_fa_ref rfl rfl rfl rfl rfl rfl | exact g_fa_ptr rfl rfl rfl rfl rfl) rfl ?_
      refine AL.p (by first | exact g_load_ref rfl rfl rfl | exact g_load_ptr rfl rfl rfl rfl rfl | exact g_load_refN rfl rfl rfl rfl | exact g_load_ptrN rfl rfl rfl rfl rfl | exact g_load_arr1 rfl rfl rfl rfl (by assumption) | exact g_load_arr rfl rfl rfl rfl (by first | rfl | omega) (by first | assumption | rfl) (by first | assumption | rfl)) rfl ?_
      refine AL.p (by first | exact mv1 rfl | exact mv2 rfl | exact mv3 rfl | exact mv4 rfl | exact mv5 rfl | exact mv6 rfl | exact mv7 rfl | exact mv8 rfl | exact mv9 rfl | exact mv10 rfl | exact mv11 rfl) rfl ?_
      refine AL.p (by exact g_neIr rfl rfl rfl) rfl ?_
      refine AL.nil ?_
      refine th_n ?_
      refine AC.condF rfl ?_
      refine AC.skip ?_
      refine th_n ?_
      refine AC.region ?_
      refine AL.p (by first | exact mv1 rfl | exact mv2 rfl | exact mv3 rfl | exact mv4 rfl | exact mv5 rfl | exact mv6 rfl | exact mv7 rfl | exact mv8 rfl | exact mv9 rfl | exact mv10 rfl | exact mv11 rfl) rfl ?_
      refine AL.p (by first | exact g_arith rfl rfl rfl (by first | exact wrap_i64 (by omega) | exact wrap_u8 (by omega) | exact wrap_u64 (by omega) | rfl) | exact g_sadd rfl rfl (by first | assumption | omega | (simp only [ByteArray.size_append, bstr_size, List.length_take, List.length_drop, List.length_cons, List.length_nil]; omega))) rfl ?_
      refine AL.p (by first | exact as1 rfl | exact as2 rfl | exact as3 rfl | exact as4 rfl | exact as5 rfl | exact as6 rfl | exact as7 rfl | exact as8 rfl | exact as9 rfl | exact as10 rfl | exact as11 rfl) rfl ?_
      refine AL.nil ?_
      refine ib_n ?_
      refine th_n ?_
      refine AC.region ?_
      refine AL.p (by first | exact mv1 rfl | exact mv2 rfl | exact mv3 rfl | exact mv4 rfl | exact mv5 rfl | exact mv6 rfl | exact mv7 rfl | exact mv8 rfl | exact mv9 rfl | exact mv10 rfl | exact mv11 rfl) rfl ?_
      refine AL.p (by first | exact g_arith rfl rfl rfl (by first | exact wrap_i64 (by omega) | exact wrap_u8 (by omega) | exact wrap_u64 (by omega) | rfl) | exact g_sadd rfl rfl (by first | assumption | omega | (simp only [ByteArray.size_append, bstr_size, List.length_take, List.length_drop, List.length_cons, List.length_nil]; omega))) rfl ?_
      refine AL.p (by first | exact as1 rfl | exact as2 rfl | exact as3 rfl | exact as4 rfl | exact as5 rfl | exact as6 rfl | exact as7 rfl | exact as8 rfl | exact as9 rfl | exact as10 rfl | exact as11 rfl) rfl ?_
      refine AL.nil ?_
      refine th_n ?_
      exact ⟨i + 1, hi1, by omega, Weak.ren _ [] hC rfl (by rw [show k + 2 * ((i + 1 : Nat) : Int) = k + 2 * i + 1 + 1 by omega]; repeat (first | exact True.intro | refine And.intro ?_ ?_ | exact DLead.same | exact DLead.eqI (by omega) | exact DLead.eqI (by dsimp only; omega) | exact DLead.nil | exact rfl | refine ⟨_, _, rfl, rfl, ?_⟩ | refine ⟨_, rfl, ?_⟩ | refine ⟨_, _, rfl, ?_, ?_⟩)) (by repeat (first | exact True.intro | refine And.intro ?_ ?_ | exact DLead.same | exact DLead.eqI (by omega) | exact DLead.eqI (by dsimp only; omega) | exact DLead.nil | exact rfl | refine ⟨_, _, rfl, rfl, ?_⟩ | refine ⟨_, rfl, ?_⟩ | refine ⟨_, _, rfl, ?_, ?_⟩)) rfl rfl rfl⟩
    · refine AC.exit ?_
      refine th_e ?_
      refine th_e ?_
      refine ib_y ?_
      refine th_n ?_
      refine AC.seq ?_
      refine AC.region ?_
      refine AL.p (by first | exact mv1 rfl | exact mv2 rfl | exact mv3 rfl | exact mv4 rfl | exact mv5 rfl | exact mv6 rfl | exact mv7 rfl | exact mv8 rfl | exact mv9 rfl | exact mv10 rfl | exact mv11 rfl) rfl ?_
      refine AL.p (by first | exact as1 rfl | exact as2 rfl | exact as3 rfl | exact as4 rfl | exact as5 rfl | exact as6 rfl | exact as7 rfl | exact as8 rfl | exact as9 rfl | exact as10 rfl | exact as11 rfl) rfl ?_
      refine AL.nil ?_
      refine th_n ?_
      refine AC.ret ?_
      refine bq_r ?_
      obtain rfl : i = n := by omega
      exact ret1 rfl rfl
theorem en_heldSigS : Enters Try.prog 12 := enters_of Try.func12 rfl rfl
end Go.Proofs.Ytkfpoagjlaldgaa

set_option linter.all false
set_option maxRecDepth 20000
namespace Go.Proofs.Ytkfpoagjlaldgaa
open Go.RowKit

theorem sgFin_len {m : List UInt8} {X : List (List UInt8)} : (psR m X).1.length ≤ 8 := by
  unfold psR
  split
  · exact Nat.zero_le _
  · split
    · exact Nat.zero_le _
    · cases h : sgL X ((partsP _).flatMap insG) ((partsP _).flatMap outG) (namesP _) with
      | none => exact Nat.zero_le _
      | some l =>
        unfold psFin
        simp only
        split
        · exact Nat.zero_le _
        · simp only; omega
theorem mgl (k : Int) (n : Nat) : n ≤ (sigsL (mkSg k n)).length := by rw [sigsL_len, mkSg_len]; exact Nat.le_refl _
theorem mgt (k : Int) (n : Nat) : (sigsL (mkSg k n)).take n = sigsL (mkSg k n) := List.take_of_length_le (by rw [sigsL_len, mkSg_len]; exact Nat.le_refl _)
def ArgX (X : List (List UInt8)) : Prop := X.length ≤ 9223372036854775807 ∧ ∀ t, t ∈ X → t.length ≤ 9223372036854775807
set_option maxRecDepth 20000 in
set_option maxHeartbeats 8000000 in
theorem FnExactProcessSignals_spec (m : List UInt8) (X : List (List UInt8)) (hm : m.length ≤ 9223372036854775807) (hX : ArgX X) : ASpec Try.prog 3 [aS (bstr m), .d (vStr X)] [] (Pure1 (aT true)) := by
  have hsz := bstr_size m
  have hSz := szStringS_spec X 1048576 (by omega) hX.1 hX.2
  refine ASpec.of Try.func3 rfl rfl fun C hC => ?_
  refine AC.seq ?_
  refine AC.region ?_
  refine AL.p (by first | exact as1 rfl | exact as2 rfl | exact as3 rfl | exact as4 rfl | exact as5 rfl | exact as6 rfl | exact as7 rfl | exact as8 rfl | exact as9 rfl | exact as10 rfl | exact as11 rfl) rfl ?_
  refine AL.nil ?_
  refine th_n ?_
  refine AC.seq ?_
  refine AC.seq ?_
  refine AC.region ?_
  refine AL.p (by first | exact mv1 rfl | exact mv2 rfl | exact mv3 rfl | exact mv4 rfl | exact mv5 rfl | exact mv6 rfl | exact mv7 rfl | exact mv8 rfl | exact mv9 rfl | exact mv10 rfl | exact mv11 rfl) rfl ?_
  refine AL.p (by first | exact g_len_view rfl rfl (by first | exact List.length_map _ | rfl) | exact g_len_str rfl rfl rfl | exact g_len_nil rfl rfl | exact g_len_own (sz := 1) (els := []) (e' := 0) rfl rfl (by simp only [maxLen]; omega) | exact g_len_tight rfl rfl (by first | exact List.length_map _ | rfl)) rfl ?_
  refine AL.p (by first | exact g_cmp rfl rfl rfl | exact g_scmp rfl rfl rfl | exact g_eqB rfl rfl rfl | exact g_neB rfl rfl rfl) rfl ?_
  refine AL.nil ?_
  refine th_n ?_
  first | refine AC.condD rfl (fun h0 => ?_) (fun h0 => ?_) | refine AC.condND rfl (fun h0 => ?_) (fun h0 => ?_) | refine AC.condB rfl (fun h0 => ?_) (fun h0 => ?_) | refine AC.condNB rfl (fun h0 => ?_) (fun h0 => ?_)
  · refine AC.seq ?_
    refine AC.region ?_
    refine AL.p (by first | exact as1 rfl | exact as2 rfl | exact as3 rfl | exact as4 rfl | exact as5 rfl | exact as6 rfl | exact as7 rfl | exact as8 rfl | exact as9 rfl | exact as10 rfl | exact as11 rfl) rfl ?_
    refine AL.nil ?_
    refine th_n ?_
    refine AC.ret ?_
    refine th_r ?_
    refine bq_r ?_
    exact ret1 rfl rfl
  · refine AC.skip ?_
    refine th_n ?_
    refine AC.seq ?_
    refine AC.region ?_
    refine AL.p (by first | exact as1 rfl | exact as2 rfl | exact as3 rfl | exact as4 rfl | exact as5 rfl | exact as6 rfl | exact as7 rfl | exact as8 rfl | exact as9 rfl | exact as10 rfl | exact as11 rfl) rfl ?_
    refine AL.nil ?_
    refine th_n ?_
    refine AC.seq ?_
    refine AC.region ?_
    refine AL.p (by first | exact mv1 rfl | exact mv2 rfl | exact mv3 rfl | exact mv4 rfl | exact mv5 rfl | exact mv6 rfl | exact mv7 rfl | exact mv8 rfl | exact mv9 rfl | exact mv10 rfl | exact mv11 rfl) rfl ?_
    refine AL.p (by first | exact mv1 rfl | exact mv2 rfl | exact mv3 rfl | exact mv4 rfl | exact mv5 rfl | exact mv6 rfl | exact mv7 rfl | exact mv8 rfl | exact mv9 rfl | exact mv10 rfl | exact mv11 rfl) rfl ?_
    refine AL.r (by exact h_funR (cs := []) en_szStringS rfl rfl (by repeat (first | exact rfl | exact DLead.same | exact DLead.nil | refine ⟨_, _, rfl, ?_, ?_⟩ | refine ⟨_, rfl, ?_⟩)) (by repeat (first | exact True.intro | refine And.intro ?_ ?_ | exact DLead.same | exact DLead.eqI (by omega) | exact DLead.eqI (by dsimp only; omega) | exact DLead.nil | exact rfl | refine ⟨_, _, rfl, rfl, ?_⟩ | refine ⟨_, rfl, ?_⟩ | refine ⟨_, _, rfl, ?_, ?_⟩)) hSz rfl rfl rfl) rfl ?_
    rintro _ ⟨_, _, ⟨z, hz, rfl, rfl⟩, rfl⟩
    refine AL.p (by first | exact as1 rfl | exact as2 rfl | exact as3 rfl | exact as4 rfl | exact as5 rfl | exact as6 rfl | exact as7 rfl | exact as8 rfl | exact as9 rfl | exact as10 rfl | exact as11 rfl) rfl ?_
    refine AL.nil ?_
    refine th_n ?_
    refine AC.seq ?_
    refine AC.seq ?_
    refine AC.region ?_
    refine AL.p (by first | exact mv1 rfl | exact mv2 rfl | exact mv3 rfl | exact mv4 rfl | exact mv5 rfl | exact mv6 rfl | exact mv7 rfl | exact mv8 rfl | exact mv9 rfl | exact mv10 rfl | exact mv11 rfl) rfl ?_
    refine AL.p (by first | exact g_cmp rfl rfl rfl | exact g_scmp rfl rfl rfl | exact g_eqB rfl rfl rfl | exact g_neB rfl rfl rfl) rfl ?_
    refine AL.nil ?_
    refine th_n ?_
    first | refine AC.condD rfl (fun h1 => ?_) (fun h1 => ?_) | refine AC.condND rfl (fun h1 => ?_) (fun h1 => ?_) | refine AC.condB rfl (fun h1 => ?_) (fun h1 => ?_) | refine AC.condNB rfl (fun h1 => ?_) (fun h1 => ?_)
    · refine AC.seq ?_
      refine AC.region ?_
      refine AL.p (by first | exact as1 rfl | exact as2 rfl | exact as3 rfl | exact as4 rfl | exact as5 rfl | exact as6 rfl | exact as7 rfl | exact as8 rfl | exact as9 rfl | exact as10 rfl | exact as11 rfl) rfl ?_
      refine AL.nil ?_
      refine th_n ?_
      refine AC.ret ?_
      refine th_r ?_
      refine bq_r ?_
      exact ret1 rfl rfl
    · refine AC.skip ?_
      refine th_n ?_
      refine AC.seq ?_
      have hm' : m.length ≤ 1048576 := by omega
      have hX' : X.length ≤ 1048576 := by omega
      have hTo := toStringS_O X hX'
      have hS := sProcSigs_spec m X hm' hX'
      have hI := iProcSigs_spec m X hm' hX'
      have hgl := sgFin_len (m := m) (X := X)
      obtain ⟨g, hg⟩ : ∃ g, g = (psR m X).1 := ⟨_, rfl⟩
      obtain ⟨b, hb⟩ : ∃ g, g = (psR m X).2 := ⟨_, rfl⟩
      rw [← hg] at hS hI hgl
      rw [← hb] at hS hI
      clear hg hb
      have hEq := eqSigS_spec g g (by omega) (by omega)
      have hEx := eqStringS_spec X X hX' hX'
      rw [decide_eq_true rfl] at hEq hEx
      have hMx := markStringS_O X 1 hX' (by omega)
      have hMg := markSigS_O g 1 (by omega) (by omega)
      have hHe := heldSigS_spec g.length 1 (by omega) (by omega)
      have hIs : ∀ id c, getL id [(0, Chunk.arr 43 2 (sigsL g))] = some c → c.solid := fun id c hc => by obtain ⟨_, rfl⟩ := getL_one hc; exact sigsL_flat g
      refine AC.region ?_
      refine AL.p (by first | exact mv1 rfl | exact mv2 rfl | exact mv3 rfl | exact mv4 rfl | exact mv5 rfl | exact mv6 rfl | exact mv7 rfl | exact mv8 rfl | exact mv9 rfl | exact mv10 rfl | exact mv11 rfl) rfl ?_
      refine AL.p (by first | exact mv1 rfl | exact mv2 rfl | exact mv3 rfl | exact mv4 rfl | exact mv5 rfl | exact mv6 rfl | exact mv7 rfl | exact mv8 rfl | exact mv9 rfl | exact mv10 rfl | exact mv11 rfl) rfl ?_
      refine AL.q (by exact h_fun (cs := []) en_toStringS rfl rfl (by repeat (first | exact rfl | exact DLead.same | exact DLead.nil | refine ⟨_, _, rfl, ?_, ?_⟩ | refine ⟨_, rfl, ?_⟩)) (by repeat (first | exact True.intro | refine And.intro ?_ ?_ | exact DLead.same | exact DLead.eqI (by omega) | exact DLead.eqI (by dsimp only; omega) | exact DLead.nil | exact rfl | refine ⟨_, _, rfl, rfl, ?_⟩ | refine ⟨_, rfl, ?_⟩ | refine ⟨_, _, rfl, ?_, ?_⟩)) hTo rfl rfl rfl rfl) rfl ?_
      refine AL.weak (Weak.freeze (i := 27) rfl rfl (sownl _) (sownt _)) ?_
      refine AL.q (by exact h_pure en_sProcSigs rfl rfl (by repeat (first | exact rfl | exact DLead.same | exact DLead.nil | refine ⟨_, _, rfl, ?_, ?_⟩ | refine ⟨_, rfl, ?_⟩)) hS rfl) rfl ?_
      refine AL.p (by first | exact mv1 rfl | exact mv2 rfl | exact mv3 rfl | exact mv4 rfl | exact mv5 rfl | exact mv6 rfl | exact mv7 rfl | exact mv8 rfl | exact mv9 rfl | exact mv10 rfl | exact mv11 rfl) rfl ?_
      refine AL.p (by first | exact g_extract (r := .d _) rfl rfl | exact g_extract (r := .own _ _) rfl rfl | exact g_extract (r := .agg _) rfl rfl | exact g_extract (r := .ptr _ _) rfl rfl | exact g_extract (r := .dead) rfl rfl) rfl ?_
      refine AL.p (by first | exact g_extract (r := .d _) rfl rfl | exact g_extract (r := .own _ _) rfl rfl | exact g_extract (r := .agg _) rfl rfl | exact g_extract (r := .ptr _ _) rfl rfl | exact g_extract (r := .dead) rfl rfl) rfl ?_
      refine AL.p (by first | exact as1 rfl | exact as2 rfl | exact as3 rfl | exact as4 rfl | exact as5 rfl | exact as6 rfl | exact as7 rfl | exact as8 rfl | exact as9 rfl | exact as10 rfl | exact as11 rfl) rfl ?_
      refine AL.p (by first | exact as1 rfl | exact as2 rfl | exact as3 rfl | exact as4 rfl | exact as5 rfl | exact as6 rfl | exact as7 rfl | exact as8 rfl | exact as9 rfl | exact as10 rfl | exact as11 rfl) rfl ?_
      refine AL.nil ?_
      refine th_n ?_
      refine AC.seq ?_
      refine AC.region ?_
      refine AL.p (by first | exact mv1 rfl | exact mv2 rfl | exact mv3 rfl | exact mv4 rfl | exact mv5 rfl | exact mv6 rfl | exact mv7 rfl | exact mv8 rfl | exact mv9 rfl | exact mv10 rfl | exact mv11 rfl) rfl ?_
      refine AL.q (by exact h_fun (cs := []) en_toStringS rfl rfl (by repeat (first | exact rfl | exact DLead.same | exact DLead.nil | refine ⟨_, _, rfl, ?_, ?_⟩ | refine ⟨_, rfl, ?_⟩)) (by repeat (first | exact True.intro | refine And.intro ?_ ?_ | exact DLead.same | exact DLead.eqI (by omega) | exact DLead.eqI (by dsimp only; omega) | exact DLead.nil | exact rfl | refine ⟨_, _, rfl, rfl, ?_⟩ | refine ⟨_, rfl, ?_⟩ | refine ⟨_, _, rfl, ?_, ?_⟩)) hTo rfl rfl rfl rfl) rfl ?_
      refine AL.p (by first | exact as1 rfl | exact as2 rfl | exact as3 rfl | exact as4 rfl | exact as5 rfl | exact as6 rfl | exact as7 rfl | exact as8 rfl | exact as9 rfl | exact as10 rfl | exact as11 rfl) rfl ?_
      refine AL.nil ?_
      refine th_n ?_
      refine AC.seq ?_
      refine AC.weak (t := ⟨104, 108, [(0, aS (bstr m)), (1, .d (vStr X)), (6, .d (vSigs g)), (7, aT b), (8, .own 100 X.length)], [(100, some (.arr 9 1 (strL X)))]⟩) (Weak.ren _ [(100, _)] hC rfl (by repeat (first | exact True.intro | refine And.intro ?_ ?_ | exact DLead.same | exact DLead.eqI (by omega) | exact DLead.eqI (by dsimp only; omega) | exact DLead.nil | exact rfl | refine ⟨_, _, rfl, rfl, ?_⟩ | refine ⟨_, rfl, ?_⟩ | refine ⟨_, _, rfl, ?_, ?_⟩)) (by repeat (first | exact True.intro | refine And.intro ?_ ?_ | exact DLead.same | exact DLead.eqI (by omega) | exact DLead.eqI (by dsimp only; omega) | exact DLead.nil | exact rfl | refine ⟨_, _, rfl, rfl, ?_⟩ | refine ⟨_, rfl, ?_⟩ | refine ⟨_, _, rfl, ?_, ?_⟩)) rfl rfl rfl) ?_
      refine AC.region ?_
      refine AL.p (by first | exact mv1 rfl | exact mv2 rfl | exact mv3 rfl | exact mv4 rfl | exact mv5 rfl | exact mv6 rfl | exact mv7 rfl | exact mv8 rfl | exact mv9 rfl | exact mv10 rfl | exact mv11 rfl) rfl ?_
      refine AL.p (by first | exact mv1 rfl | exact mv2 rfl | exact mv3 rfl | exact mv4 rfl | exact mv5 rfl | exact mv6 rfl | exact mv7 rfl | exact mv8 rfl | exact mv9 rfl | exact mv10 rfl | exact mv11 rfl) rfl ?_
      refine AL.q (by exact h_borrowF [100] en_iProcSigs rfl rfl hI (.cons (.of .d) (.cons (.of (.own rfl rfl (sownl _) (sownt _))) .nil)) rfl hIs) rfl ?_
      refine AL.p (by first | exact mv1 rfl | exact mv2 rfl | exact mv3 rfl | exact mv4 rfl | exact mv5 rfl | exact mv6 rfl | exact mv7 rfl | exact mv8 rfl | exact mv9 rfl | exact mv10 rfl | exact mv11 rfl) rfl ?_
      refine AL.p (by first | exact g_extract (r := .d _) rfl rfl | exact g_extract (r := .own _ _) rfl rfl | exact g_extract (r := .agg _) rfl rfl | exact g_extract (r := .ptr _ _) rfl rfl | exact g_extract (r := .dead) rfl rfl) rfl ?_
      refine AL.p (by first | exact g_extract (r := .d _) rfl rfl | exact g_extract (r := .own _ _) rfl rfl | exact g_extract (r := .agg _) rfl rfl | exact g_extract (r := .ptr _ _) rfl rfl | exact g_extract (r := .dead) rfl rfl) rfl ?_
      refine AL.p (by first | exact as1 rfl | exact as2 rfl | exact as3 rfl | exact as4 rfl | exact as5 rfl | exact as6 rfl | exact as7 rfl | exact as8 rfl | exact as9 rfl | exact as10 rfl | exact as11 rfl) rfl ?_
      refine AL.p (by first | exact as1 rfl | exact as2 rfl | exact as3 rfl | exact as4 rfl | exact as5 rfl | exact as6 rfl | exact as7 rfl | exact as8 rfl | exact as9 rfl | exact as10 rfl | exact as11 rfl) rfl ?_
      refine AL.nil ?_
      refine th_n ?_
      refine AC.seq ?_
      refine AC.seq ?_
      refine AC.weak (t := ⟨104, 200, [(0, aS (bstr m)), (1, .d (vStr X)), (6, .d (vSigs g)), (7, aT b), (8, .own 100 X.length), (9, .own 101 g.length), (10, aT b)], [(100, some (.arr 9 1 (strL X))), (101, some (.arr 43 2 (sigsL g)))]⟩) (Weak.ren _ [(100, _), (101, _)] hC rfl (by repeat (first | exact True.intro | refine And.intro ?_ ?_ | exact DLead.same | exact DLead.eqI (by omega) | exact DLead.eqI (by dsimp only; omega) | exact DLead.nil | exact rfl | refine ⟨_, _, rfl, rfl, ?_⟩ | refine ⟨_, rfl, ?_⟩ | refine ⟨_, _, rfl, ?_, ?_⟩)) (by repeat (first | exact True.intro | refine And.intro ?_ ?_ | exact DLead.same | exact DLead.eqI (by omega) | exact DLead.eqI (by dsimp only; omega) | exact DLead.nil | exact rfl | refine ⟨_, _, rfl, rfl, ?_⟩ | refine ⟨_, rfl, ?_⟩ | refine ⟨_, _, rfl, ?_, ?_⟩)) rfl rfl rfl) ?_
      refine AC.region ?_
      refine AL.p (by first | exact mv1 rfl | exact mv2 rfl | exact mv3 rfl | exact mv4 rfl | exact mv5 rfl | exact mv6 rfl | exact mv7 rfl | exact mv8 rfl | exact mv9 rfl | exact mv10 rfl | exact mv11 rfl) rfl ?_
      refine AL.p (by first | exact mv1 rfl | exact mv2 rfl | exact mv3 rfl | exact mv4 rfl | exact mv5 rfl | exact mv6 rfl | exact mv7 rfl | exact mv8 rfl | exact mv9 rfl | exact mv10 rfl | exact mv11 rfl) rfl ?_
      refine AL.q (by exact h_borrow [101] en_eqSigS rfl rfl hEq (.cons (.of (.own rfl rfl (gownl _) (gownt _))) (.cons (.of .d) .nil)) rfl) rfl ?_
      refine AL.p (by first | exact g_not rfl | exact g_neg rfl (by first | exact wrap_i64 (by omega) | exact wrap_u8 (by omega) | exact wrap_u64 (by omega) | rfl)) rfl ?_
      refine AL.p (by first | exact mv1 rfl | exact mv2 rfl | exact mv3 rfl | exact mv4 rfl | exact mv5 rfl | exact mv6 rfl | exact mv7 rfl | exact mv8 rfl | exact mv9 rfl | exact mv10 rfl | exact mv11 rfl) rfl ?_
      first | refine AL.caseG rfl rfl (fun h2 => ?_) (fun h2 => ?_) | refine AL.caseGN rfl rfl (fun h2 => ?_) (fun h2 => ?_) | refine AL.caseGB rfl rfl (fun h2 => ?_) (fun h2 => ?_) | refine AL.caseGNB rfl rfl (fun h2 => ?_) (fun h2 => ?_)
      · refine AL.not rfl rfl rfl rfl rfl ?_
        refine AL.not rfl rfl rfl rfl rfl ?_
        refine AL.not rfl rfl rfl rfl rfl ?_
        refine AL.p (by first | exact g_pickT (r := .d _) rfl rfl | exact g_pickF (r := .d _) rfl rfl) rfl ?_
        refine AL.nil ?_
        refine th_n ?_
        refine AC.condT rfl ?_
        refine AC.seq ?_
        first | (exfalso; omega) | exact absurd h24 (by simp) | exact absurd h23 (by simp) | exact absurd h22 (by simp) | exact absurd h21 (by simp) | exact absurd h20 (by simp) | exact absurd h19 (by simp) | exact absurd h18 (by simp) | exact absurd h17 (by simp) | exact absurd h16 (by simp) | exact absurd h15 (by simp) | exact absurd h14 (by simp) | exact absurd h13 (by simp) | exact absurd h12 (by simp) | exact absurd h11 (by simp) | exact absurd h10 (by simp) | exact absurd h9 (by simp) | exact absurd h8 (by simp) | exact absurd h7 (by simp) | exact absurd h6 (by simp) | exact absurd h5 (by simp) | exact absurd h4 (by simp) | exact absurd h3 (by simp) | exact absurd h2 (by simp) | exact absurd h1 (by simp) | exact absurd h0 (by simp)
      · refine AL.yes rfl rfl rfl ?_
        refine AL.p (by first | exact mv1 rfl | exact mv2 rfl | exact mv3 rfl | exact mv4 rfl | exact mv5 rfl | exact mv6 rfl | exact mv7 rfl | exact mv8 rfl | exact mv9 rfl | exact mv10 rfl | exact mv11 rfl) rfl ?_
        refine AL.yes rfl rfl rfl ?_
        refine AL.p (by first | exact mv1 rfl | exact mv2 rfl | exact mv3 rfl | exact mv4 rfl | exact mv5 rfl | exact mv6 rfl | exact mv7 rfl | exact mv8 rfl | exact mv9 rfl | exact mv10 rfl | exact mv11 rfl) rfl ?_
        refine AL.yes rfl rfl rfl ?_
        refine AL.p (by first | exact g_cmp rfl rfl rfl | exact g_scmp rfl rfl rfl | exact g_eqB rfl rfl rfl | exact g_neB rfl rfl rfl) rfl ?_
        refine AL.p (by first | exact g_pickT (r := .d _) rfl rfl | exact g_pickF (r := .d _) rfl rfl) rfl ?_
        refine AL.nil ?_
        refine th_n ?_
        first | refine AC.condD rfl (fun h3 => ?_) (fun h3 => ?_) | refine AC.condND rfl (fun h3 => ?_) (fun h3 => ?_) | refine AC.condB rfl (fun h3 => ?_) (fun h3 => ?_) | refine AC.condNB rfl (fun h3 => ?_) (fun h3 => ?_)
        · refine AC.seq ?_
          first | (exfalso; omega) | exact absurd h24 (by simp) | exact absurd h23 (by simp) | exact absurd h22 (by simp) | exact absurd h21 (by simp) | exact absurd h20 (by simp) | exact absurd h19 (by simp) | exact absurd h18 (by simp) | exact absurd h17 (by simp) | exact absurd h16 (by simp) | exact absurd h15 (by simp) | exact absurd h14 (by simp) | exact absurd h13 (by simp) | exact absurd h12 (by simp) | exact absurd h11 (by simp) | exact absurd h10 (by simp) | exact absurd h9 (by simp) | exact absurd h8 (by simp) | exact absurd h7 (by simp) | exact absurd h6 (by simp) | exact absurd h5 (by simp) | exact absurd h4 (by simp) | exact absurd h3 (by simp) | exact absurd h2 (by simp) | exact absurd h1 (by simp) | exact absurd h0 (by simp)
        · refine AC.skip ?_
          refine th_n ?_
          refine AC.seq ?_
          refine AC.seq ?_
          refine AC.weak (t := ⟨104, 200, [(0, aS (bstr m)), (1, .d (vStr X)), (6, .d (vSigs g)), (7, aT b), (8, .own 100 X.length), (9, .own 101 g.length), (10, aT b)], [(100, some (.arr 9 1 (strL X))), (101, some (.arr 43 2 (sigsL g)))]⟩) (Weak.ren _ [(100, _), (101, _)] hC rfl (by repeat (first | exact True.intro | refine And.intro ?_ ?_ | exact DLead.same | exact DLead.eqI (by omega) | exact DLead.eqI (by dsimp only; omega) | exact DLead.nil | exact rfl | refine ⟨_, _, rfl, rfl, ?_⟩ | refine ⟨_, rfl, ?_⟩ | refine ⟨_, _, rfl, ?_, ?_⟩)) (by repeat (first | exact True.intro | refine And.intro ?_ ?_ | exact DLead.same | exact DLead.eqI (by omega) | exact DLead.eqI (by dsimp only; omega) | exact DLead.nil | exact rfl | refine ⟨_, _, rfl, rfl, ?_⟩ | refine ⟨_, rfl, ?_⟩ | refine ⟨_, _, rfl, ?_, ?_⟩)) rfl rfl rfl) ?_
          refine AC.region ?_
          refine AL.p (by first | exact mv1 rfl | exact mv2 rfl | exact mv3 rfl | exact mv4 rfl | exact mv5 rfl | exact mv6 rfl | exact mv7 rfl | exact mv8 rfl | exact mv9 rfl | exact mv10 rfl | exact mv11 rfl) rfl ?_
          refine AL.p (by first | exact mv1 rfl | exact mv2 rfl | exact mv3 rfl | exact mv4 rfl | exact mv5 rfl | exact mv6 rfl | exact mv7 rfl | exact mv8 rfl | exact mv9 rfl | exact mv10 rfl | exact mv11 rfl) rfl ?_
          refine AL.q (by exact h_fun (cs := []) en_toStringS rfl rfl (by repeat (first | exact rfl | exact DLead.same | exact DLead.nil | refine ⟨_, _, rfl, ?_, ?_⟩ | refine ⟨_, rfl, ?_⟩)) (by repeat (first | exact True.intro | refine And.intro ?_ ?_ | exact DLead.same | exact DLead.eqI (by omega) | exact DLead.eqI (by dsimp only; omega) | exact DLead.nil | exact rfl | refine ⟨_, _, rfl, rfl, ?_⟩ | refine ⟨_, rfl, ?_⟩ | refine ⟨_, _, rfl, ?_, ?_⟩)) hTo rfl rfl rfl rfl) rfl ?_
          refine AL.q (by exact h_borrow [100, 200] en_eqStringS rfl rfl hEx (.cons (.of (.own rfl rfl (sownl _) (sownt _))) (.cons (.of (.own rfl rfl (sownl _) (sownt _))) .nil)) rfl) rfl ?_
          refine AL.p (by first | exact g_not rfl | exact g_neg rfl (by first | exact wrap_i64 (by omega) | exact wrap_u8 (by omega) | exact wrap_u64 (by omega) | rfl)) rfl ?_
          refine AL.nil ?_
          refine th_n ?_
          first | refine AC.condD rfl (fun h4 => ?_) (fun h4 => ?_) | refine AC.condND rfl (fun h4 => ?_) (fun h4 => ?_) | refine AC.condB rfl (fun h4 => ?_) (fun h4 => ?_) | refine AC.condNB rfl (fun h4 => ?_) (fun h4 => ?_)
          · refine AC.seq ?_
            first | (exfalso; omega) | exact absurd h24 (by simp) | exact absurd h23 (by simp) | exact absurd h22 (by simp) | exact absurd h21 (by simp) | exact absurd h20 (by simp) | exact absurd h19 (by simp) | exact absurd h18 (by simp) | exact absurd h17 (by simp) | exact absurd h16 (by simp) | exact absurd h15 (by simp) | exact absurd h14 (by simp) | exact absurd h13 (by simp) | exact absurd h12 (by simp) | exact absurd h11 (by simp) | exact absurd h10 (by simp) | exact absurd h9 (by simp) | exact absurd h8 (by simp) | exact absurd h7 (by simp) | exact absurd h6 (by simp) | exact absurd h5 (by simp) | exact absurd h4 (by simp) | exact absurd h3 (by simp) | exact absurd h2 (by simp) | exact absurd h1 (by simp) | exact absurd h0 (by simp)
          · refine AC.skip ?_
            refine th_n ?_
            refine AC.seq ?_
            refine AC.region ?_
            refine AL.p (by first | exact as1 rfl | exact as2 rfl | exact as3 rfl | exact as4 rfl | exact as5 rfl | exact as6 rfl | exact as7 rfl | exact as8 rfl | exact as9 rfl | exact as10 rfl | exact as11 rfl) rfl ?_
            refine AL.nil ?_
            refine th_n ?_
            refine AC.seq ?_
            refine AC.region ?_
            refine AL.p (by first | exact mv1 rfl | exact mv2 rfl | exact mv3 rfl | exact mv4 rfl | exact mv5 rfl | exact mv6 rfl | exact mv7 rfl | exact mv8 rfl | exact mv9 rfl | exact mv10 rfl | exact mv11 rfl) rfl ?_
            refine AL.p (by first | exact mv1 rfl | exact mv2 rfl | exact mv3 rfl | exact mv4 rfl | exact mv5 rfl | exact mv6 rfl | exact mv7 rfl | exact mv8 rfl | exact mv9 rfl | exact mv10 rfl | exact mv11 rfl) rfl ?_
            refine AL.q (by exact h_fun (cs := [100]) en_markStringS rfl rfl (by repeat (first | exact rfl | exact DLead.same | exact DLead.nil | refine ⟨_, _, rfl, ?_, ?_⟩ | refine ⟨_, rfl, ?_⟩)) (by repeat (first | exact True.intro | refine And.intro ?_ ?_ | exact DLead.same | exact DLead.eqI (by omega) | exact DLead.eqI (by dsimp only; omega) | exact DLead.nil | exact rfl | refine ⟨_, _, rfl, rfl, ?_⟩ | refine ⟨_, rfl, ?_⟩ | refine ⟨_, _, rfl, ?_, ?_⟩)) hMx rfl rfl rfl rfl) rfl ?_
            refine AL.p (by first | exact as1 rfl | exact as2 rfl | exact as3 rfl | exact as4 rfl | exact as5 rfl | exact as6 rfl | exact as7 rfl | exact as8 rfl | exact as9 rfl | exact as10 rfl | exact as11 rfl) rfl ?_
            refine AL.nil ?_
            refine th_n ?_
            refine AC.seq ?_
            refine AC.seq ?_
            refine AC.region ?_
            refine AL.p (by first | exact mv1 rfl | exact mv2 rfl | exact mv3 rfl | exact mv4 rfl | exact mv5 rfl | exact mv6 rfl | exact mv7 rfl | exact mv8 rfl | exact mv9 rfl | exact mv10 rfl | exact mv11 rfl) rfl ?_
            refine AL.p (by first | exact g_cmp rfl rfl rfl | exact g_scmp rfl rfl rfl | exact g_eqB rfl rfl rfl | exact g_neB rfl rfl rfl) rfl ?_
            refine AL.p (by first | exact mv1 rfl | exact mv2 rfl | exact mv3 rfl | exact mv4 rfl | exact mv5 rfl | exact mv6 rfl | exact mv7 rfl | exact mv8 rfl | exact mv9 rfl | exact mv10 rfl | exact mv11 rfl) rfl ?_
            first | refine AL.caseG rfl rfl (fun h5 => ?_) (fun h5 => ?_) | refine AL.caseGN rfl rfl (fun h5 => ?_) (fun h5 => ?_) | refine AL.caseGB rfl rfl (fun h5 => ?_) (fun h5 => ?_) | refine AL.caseGNB rfl rfl (fun h5 => ?_) (fun h5 => ?_)
            · refine AL.not rfl rfl rfl rfl rfl ?_
              refine AL.not rfl rfl rfl rfl rfl ?_
              refine AL.not rfl rfl rfl rfl rfl ?_
              refine AL.not rfl rfl rfl rfl rfl ?_
              refine AL.p (by first | exact g_pickT (r := .d _) rfl rfl | exact g_pickF (r := .d _) rfl rfl) rfl ?_
              refine AL.p (by first | exact mv1 rfl | exact mv2 rfl | exact mv3 rfl | exact mv4 rfl | exact mv5 rfl | exact mv6 rfl | exact mv7 rfl | exact mv8 rfl | exact mv9 rfl | exact mv10 rfl | exact mv11 rfl) rfl ?_
              refine AL.not rfl rfl rfl rfl rfl ?_
              refine AL.not rfl rfl rfl rfl rfl ?_
              refine AL.not rfl rfl rfl rfl rfl ?_
              refine AL.p (by first | exact g_pickT (r := .d _) rfl rfl | exact g_pickF (r := .d _) rfl rfl) rfl ?_
              refine AL.nil ?_
              refine th_n ?_
              refine AC.condT rfl ?_
              refine AC.seq ?_
              first | (exfalso; omega) | exact absurd h24 (by simp) | exact absurd h23 (by simp) | exact absurd h22 (by simp) | exact absurd h21 (by simp) | exact absurd h20 (by simp) | exact absurd h19 (by simp) | exact absurd h18 (by simp) | exact absurd h17 (by simp) | exact absurd h16 (by simp) | exact absurd h15 (by simp) | exact absurd h14 (by simp) | exact absurd h13 (by simp) | exact absurd h12 (by simp) | exact absurd h11 (by simp) | exact absurd h10 (by simp) | exact absurd h9 (by simp) | exact absurd h8 (by simp) | exact absurd h7 (by simp) | exact absurd h6 (by simp) | exact absurd h5 (by simp) | exact absurd h4 (by simp) | exact absurd h3 (by simp) | exact absurd h2 (by simp) | exact absurd h1 (by simp) | exact absurd h0 (by simp)
            · refine AL.yes rfl rfl rfl ?_
              refine AL.p (by first | exact mv1 rfl | exact mv2 rfl | exact mv3 rfl | exact mv4 rfl | exact mv5 rfl | exact mv6 rfl | exact mv7 rfl | exact mv8 rfl | exact mv9 rfl | exact mv10 rfl | exact mv11 rfl) rfl ?_
              refine AL.yes rfl rfl rfl ?_
              refine AL.p (by first | exact mv1 rfl | exact mv2 rfl | exact mv3 rfl | exact mv4 rfl | exact mv5 rfl | exact mv6 rfl | exact mv7 rfl | exact mv8 rfl | exact mv9 rfl | exact mv10 rfl | exact mv11 rfl) rfl ?_
              refine AL.yes rfl rfl rfl ?_
              refine AL.q (by exact h_borrow [101] en_eqSigS rfl rfl hEq (.cons (.of (.own rfl rfl (gownl _) (gownt _))) (.cons (.of .d) .nil)) rfl) rfl ?_
              refine AL.yes rfl rfl rfl ?_
              refine AL.p (by first | exact g_not rfl | exact g_neg rfl (by first | exact wrap_i64 (by omega) | exact wrap_u8 (by omega) | exact wrap_u64 (by omega) | rfl)) rfl ?_
              refine AL.p (by first | exact g_pickT (r := .d _) rfl rfl | exact g_pickF (r := .d _) rfl rfl) rfl ?_
              refine AL.p (by first | exact mv1 rfl | exact mv2 rfl | exact mv3 rfl | exact mv4 rfl | exact mv5 rfl | exact mv6 rfl | exact mv7 rfl | exact mv8 rfl | exact mv9 rfl | exact mv10 rfl | exact mv11 rfl) rfl ?_
              first | refine AL.caseG rfl rfl (fun h6 => ?_) (fun h6 => ?_) | refine AL.caseGN rfl rfl (fun h6 => ?_) (fun h6 => ?_) | refine AL.caseGB rfl rfl (fun h6 => ?_) (fun h6 => ?_) | refine AL.caseGNB rfl rfl (fun h6 => ?_) (fun h6 => ?_)
              · refine AL.not rfl rfl rfl rfl rfl ?_
                refine AL.not rfl rfl rfl rfl rfl ?_
                refine AL.not rfl rfl rfl rfl rfl ?_
                refine AL.p (by first | exact g_pickT (r := .d _) rfl rfl | exact g_pickF (r := .d _) rfl rfl) rfl ?_
                refine AL.nil ?_
                refine th_n ?_
                refine AC.condT rfl ?_
                refine AC.seq ?_
                first | (exfalso; omega) | exact absurd h24 (by simp) | exact absurd h23 (by simp) | exact absurd h22 (by simp) | exact absurd h21 (by simp) | exact absurd h20 (by simp) | exact absurd h19 (by simp) | exact absurd h18 (by simp) | exact absurd h17 (by simp) | exact absurd h16 (by simp) | exact absurd h15 (by simp) | exact absurd h14 (by simp) | exact absurd h13 (by simp) | exact absurd h12 (by simp) | exact absurd h11 (by simp) | exact absurd h10 (by simp) | exact absurd h9 (by simp) | exact absurd h8 (by simp) | exact absurd h7 (by simp) | exact absurd h6 (by simp) | exact absurd h5 (by simp) | exact absurd h4 (by simp) | exact absurd h3 (by simp) | exact absurd h2 (by simp) | exact absurd h1 (by simp) | exact absurd h0 (by simp)
              · refine AL.yes rfl rfl rfl ?_
                refine AL.p (by first | exact mv1 rfl | exact mv2 rfl | exact mv3 rfl | exact mv4 rfl | exact mv5 rfl | exact mv6 rfl | exact mv7 rfl | exact mv8 rfl | exact mv9 rfl | exact mv10 rfl | exact mv11 rfl) rfl ?_
                refine AL.yes rfl rfl rfl ?_
                refine AL.p (by first | exact mv1 rfl | exact mv2 rfl | exact mv3 rfl | exact mv4 rfl | exact mv5 rfl | exact mv6 rfl | exact mv7 rfl | exact mv8 rfl | exact mv9 rfl | exact mv10 rfl | exact mv11 rfl) rfl ?_
                refine AL.yes rfl rfl rfl ?_
                refine AL.p (by first | exact g_cmp rfl rfl rfl | exact g_scmp rfl rfl rfl | exact g_eqB rfl rfl rfl | exact g_neB rfl rfl rfl) rfl ?_
                refine AL.p (by first | exact g_pickT (r := .d _) rfl rfl | exact g_pickF (r := .d _) rfl rfl) rfl ?_
                refine AL.nil ?_
                refine th_n ?_
                first | refine AC.condD rfl (fun h7 => ?_) (fun h7 => ?_) | refine AC.condND rfl (fun h7 => ?_) (fun h7 => ?_) | refine AC.condB rfl (fun h7 => ?_) (fun h7 => ?_) | refine AC.condNB rfl (fun h7 => ?_) (fun h7 => ?_)
                · refine AC.seq ?_
                  first | (exfalso; omega) | exact absurd h24 (by simp) | exact absurd h23 (by simp) | exact absurd h22 (by simp) | exact absurd h21 (by simp) | exact absurd h20 (by simp) | exact absurd h19 (by simp) | exact absurd h18 (by simp) | exact absurd h17 (by simp) | exact absurd h16 (by simp) | exact absurd h15 (by simp) | exact absurd h14 (by simp) | exact absurd h13 (by simp) | exact absurd h12 (by simp) | exact absurd h11 (by simp) | exact absurd h10 (by simp) | exact absurd h9 (by simp) | exact absurd h8 (by simp) | exact absurd h7 (by simp) | exact absurd h6 (by simp) | exact absurd h5 (by simp) | exact absurd h4 (by simp) | exact absurd h3 (by simp) | exact absurd h2 (by simp) | exact absurd h1 (by simp) | exact absurd h0 (by simp)
                · refine AC.skip ?_
                  refine th_n ?_
                  refine AC.seq ?_
                  refine AC.region ?_
                  refine AL.p (by first | exact as1 rfl | exact as2 rfl | exact as3 rfl | exact as4 rfl | exact as5 rfl | exact as6 rfl | exact as7 rfl | exact as8 rfl | exact as9 rfl | exact as10 rfl | exact as11 rfl) rfl ?_
                  refine AL.nil ?_
                  refine th_n ?_
                  refine AC.seq ?_
                  refine AC.region ?_
                  refine AL.p (by first | exact mv1 rfl | exact mv2 rfl | exact mv3 rfl | exact mv4 rfl | exact mv5 rfl | exact mv6 rfl | exact mv7 rfl | exact mv8 rfl | exact mv9 rfl | exact mv10 rfl | exact mv11 rfl) rfl ?_
                  refine AL.p (by first | exact mv1 rfl | exact mv2 rfl | exact mv3 rfl | exact mv4 rfl | exact mv5 rfl | exact mv6 rfl | exact mv7 rfl | exact mv8 rfl | exact mv9 rfl | exact mv10 rfl | exact mv11 rfl) rfl ?_
                  refine AL.q (by exact h_fun (cs := [101]) en_markSigS rfl rfl (by repeat (first | exact rfl | exact DLead.same | exact DLead.nil | refine ⟨_, _, rfl, ?_, ?_⟩ | refine ⟨_, rfl, ?_⟩)) (by repeat (first | exact True.intro | refine And.intro ?_ ?_ | exact DLead.same | exact DLead.eqI (by omega) | exact DLead.eqI (by dsimp only; omega) | exact DLead.nil | exact rfl | refine ⟨_, _, rfl, rfl, ?_⟩ | refine ⟨_, rfl, ?_⟩ | refine ⟨_, _, rfl, ?_, ?_⟩)) hMg rfl rfl rfl rfl) rfl ?_
                  refine AL.p (by first | exact as1 rfl | exact as2 rfl | exact as3 rfl | exact as4 rfl | exact as5 rfl | exact as6 rfl | exact as7 rfl | exact as8 rfl | exact as9 rfl | exact as10 rfl | exact as11 rfl) rfl ?_
                  refine AL.nil ?_
                  refine th_n ?_
                  refine AC.seq ?_
                  refine AC.region ?_
                  refine AL.p (by first | exact as1 rfl | exact as2 rfl | exact as3 rfl | exact as4 rfl | exact as5 rfl | exact as6 rfl | exact as7 rfl | exact as8 rfl | exact as9 rfl | exact as10 rfl | exact as11 rfl) rfl ?_
                  refine AL.nil ?_
                  refine th_n ?_
                  refine AC.seq ?_
                  refine AC.region ?_
                  refine AL.p (by first | exact mv1 rfl | exact mv2 rfl | exact mv3 rfl | exact mv4 rfl | exact mv5 rfl | exact mv6 rfl | exact mv7 rfl | exact mv8 rfl | exact mv9 rfl | exact mv10 rfl | exact mv11 rfl) rfl ?_
                  refine AL.p (by first | exact mv1 rfl | exact mv2 rfl | exact mv3 rfl | exact mv4 rfl | exact mv5 rfl | exact mv6 rfl | exact mv7 rfl | exact mv8 rfl | exact mv9 rfl | exact mv10 rfl | exact mv11 rfl) rfl ?_
                  refine AL.q (by exact h_borrow [101] en_heldSigS rfl rfl hHe (.cons (.of (.own rfl rfl (mgl _ _) (mgt _ _))) (.cons (.of .d) .nil)) rfl) rfl ?_
                  refine AL.p (by first | exact as1 rfl | exact as2 rfl | exact as3 rfl | exact as4 rfl | exact as5 rfl | exact as6 rfl | exact as7 rfl | exact as8 rfl | exact as9 rfl | exact as10 rfl | exact as11 rfl) rfl ?_
                  refine AL.nil ?_
                  refine th_n ?_
                  refine AC.seq ?_
                  refine AC.seq ?_
                  refine AC.region ?_
                  refine AL.p (by first | exact mv1 rfl | exact mv2 rfl | exact mv3 rfl | exact mv4 rfl | exact mv5 rfl | exact mv6 rfl | exact mv7 rfl | exact mv8 rfl | exact mv9 rfl | exact mv10 rfl | exact mv11 rfl) rfl ?_
                  refine AL.p (by first | exact g_cmp rfl rfl rfl | exact g_scmp rfl rfl rfl | exact g_eqB rfl rfl rfl | exact g_neB rfl rfl rfl) rfl ?_
                  refine AL.nil ?_
                  refine th_n ?_
                  first | refine AC.condD rfl (fun h8 => ?_) (fun h8 => ?_) | refine AC.condND rfl (fun h8 => ?_) (fun h8 => ?_) | refine AC.condB rfl (fun h8 => ?_) (fun h8 => ?_) | refine AC.condNB rfl (fun h8 => ?_) (fun h8 => ?_)
                  · refine AC.seq ?_
                    first | (exfalso; omega) | exact absurd h24 (by simp) | exact absurd h23 (by simp) | exact absurd h22 (by simp) | exact absurd h21 (by simp) | exact absurd h20 (by simp) | exact absurd h19 (by simp) | exact absurd h18 (by simp) | exact absurd h17 (by simp) | exact absurd h16 (by simp) | exact absurd h15 (by simp) | exact absurd h14 (by simp) | exact absurd h13 (by simp) | exact absurd h12 (by simp) | exact absurd h11 (by simp) | exact absurd h10 (by simp) | exact absurd h9 (by simp) | exact absurd h8 (by simp) | exact absurd h7 (by simp) | exact absurd h6 (by simp) | exact absurd h5 (by simp) | exact absurd h4 (by simp) | exact absurd h3 (by simp) | exact absurd h2 (by simp) | exact absurd h1 (by simp) | exact absurd h0 (by simp)
                  · refine AC.skip ?_
                    refine th_n ?_
                    refine AC.seq ?_
                    refine AC.seq ?_
                    refine AC.region ?_
                    refine AL.p (by first | exact mv1 rfl | exact mv2 rfl | exact mv3 rfl | exact mv4 rfl | exact mv5 rfl | exact mv6 rfl | exact mv7 rfl | exact mv8 rfl | exact mv9 rfl | exact mv10 rfl | exact mv11 rfl) rfl ?_
                    refine AL.p (by first | exact mv1 rfl | exact mv2 rfl | exact mv3 rfl | exact mv4 rfl | exact mv5 rfl | exact mv6 rfl | exact mv7 rfl | exact mv8 rfl | exact mv9 rfl | exact mv10 rfl | exact mv11 rfl) rfl ?_
                    refine AL.p (by first | exact g_cmp rfl rfl rfl | exact g_scmp rfl rfl rfl | exact g_eqB rfl rfl rfl | exact g_neB rfl rfl rfl) rfl ?_
                    refine AL.nil ?_
                    refine th_n ?_
                    first | refine AC.condD rfl (fun h9 => ?_) (fun h9 => ?_) | refine AC.condND rfl (fun h9 => ?_) (fun h9 => ?_) | refine AC.condB rfl (fun h9 => ?_) (fun h9 => ?_) | refine AC.condNB rfl (fun h9 => ?_) (fun h9 => ?_)
                    · refine AC.seq ?_
                      first | (exfalso; omega) | exact absurd h24 (by simp) | exact absurd h23 (by simp) | exact absurd h22 (by simp) | exact absurd h21 (by simp) | exact absurd h20 (by simp) | exact absurd h19 (by simp) | exact absurd h18 (by simp) | exact absurd h17 (by simp) | exact absurd h16 (by simp) | exact absurd h15 (by simp) | exact absurd h14 (by simp) | exact absurd h13 (by simp) | exact absurd h12 (by simp) | exact absurd h11 (by simp) | exact absurd h10 (by simp) | exact absurd h9 (by simp) | exact absurd h8 (by simp) | exact absurd h7 (by simp) | exact absurd h6 (by simp) | exact absurd h5 (by simp) | exact absurd h4 (by simp) | exact absurd h3 (by simp) | exact absurd h2 (by simp) | exact absurd h1 (by simp) | exact absurd h0 (by simp)
                    · refine AC.skip ?_
                      refine th_n ?_
                      refine AC.seq ?_
                      refine AC.weak (t := ⟨104, 600, [(0, aS (bstr m)), (1, .d (vStr X)), (6, .d (vSigs g)), (7, aT b), (9, .own 101 g.length), (12, aI (1 + 2 * g.length))], [(101, some (.arr 43 2 (sigsL (mkSg 1 g.length))))]⟩) (Weak.ren _ [(101, _)] hC rfl (by repeat (first | exact True.intro | refine And.intro ?_ ?_ | exact DLead.same | exact DLead.eqI (by omega) | exact DLead.eqI (by dsimp only; omega) | exact DLead.nil | exact rfl | refine ⟨_, _, rfl, rfl, ?_⟩ | refine ⟨_, rfl, ?_⟩ | refine ⟨_, _, rfl, ?_, ?_⟩)) (by repeat (first | exact True.intro | refine And.intro ?_ ?_ | exact DLead.same | exact DLead.eqI (by omega) | exact DLead.eqI (by dsimp only; omega) | exact DLead.nil | exact rfl | refine ⟨_, _, rfl, rfl, ?_⟩ | refine ⟨_, rfl, ?_⟩ | refine ⟨_, _, rfl, ?_, ?_⟩)) rfl rfl rfl) ?_
                      refine AC.region ?_
                      refine AL.p (by first | exact mv1 rfl | exact mv2 rfl | exact mv3 rfl | exact mv4 rfl | exact mv5 rfl | exact mv6 rfl | exact mv7 rfl | exact mv8 rfl | exact mv9 rfl | exact mv10 rfl | exact mv11 rfl) rfl ?_
                      refine AL.p (by first | exact mv1 rfl | exact mv2 rfl | exact mv3 rfl | exact mv4 rfl | exact mv5 rfl | exact mv6 rfl | exact mv7 rfl | exact mv8 rfl | exact mv9 rfl | exact mv10 rfl | exact mv11 rfl) rfl ?_
                      refine AL.q (by exact h_fun (cs := []) en_toStringS rfl rfl (by repeat (first | exact rfl | exact DLead.same | exact DLead.nil | refine ⟨_, _, rfl, ?_, ?_⟩ | refine ⟨_, rfl, ?_⟩)) (by repeat (first | exact True.intro | refine And.intro ?_ ?_ | exact DLead.same | exact DLead.eqI (by omega) | exact DLead.eqI (by dsimp only; omega) | exact DLead.nil | exact rfl | refine ⟨_, _, rfl, rfl, ?_⟩ | refine ⟨_, rfl, ?_⟩ | refine ⟨_, _, rfl, ?_, ?_⟩)) hTo rfl rfl rfl rfl) rfl ?_
                      refine AL.q (by exact h_borrowF [600] en_iProcSigs rfl rfl hI (.cons (.of .d) (.cons (.of (.own rfl rfl (sownl _) (sownt _))) .nil)) rfl hIs) rfl ?_
                      refine AL.p (by first | exact mv1 rfl | exact mv2 rfl | exact mv3 rfl | exact mv4 rfl | exact mv5 rfl | exact mv6 rfl | exact mv7 rfl | exact mv8 rfl | exact mv9 rfl | exact mv10 rfl | exact mv11 rfl) rfl ?_
                      refine AL.p (by first | exact g_extract (r := .d _) rfl rfl | exact g_extract (r := .own _ _) rfl rfl | exact g_extract (r := .agg _) rfl rfl | exact g_extract (r := .ptr _ _) rfl rfl | exact g_extract (r := .dead) rfl rfl) rfl ?_
                      refine AL.p (by first | exact g_extract (r := .d _) rfl rfl | exact g_extract (r := .own _ _) rfl rfl | exact g_extract (r := .agg _) rfl rfl | exact g_extract (r := .ptr _ _) rfl rfl | exact g_extract (r := .dead) rfl rfl) rfl ?_
                      refine AL.p (by first | exact as1 rfl | exact as2 rfl | exact as3 rfl | exact as4 rfl | exact as5 rfl | exact as6 rfl | exact as7 rfl | exact as8 rfl | exact as9 rfl | exact as10 rfl | exact as11 rfl) rfl ?_
                      refine AL.p (by first | exact as1 rfl | exact as2 rfl | exact as3 rfl | exact as4 rfl | exact as5 rfl | exact as6 rfl | exact as7 rfl | exact as8 rfl | exact as9 rfl | exact as10 rfl | exact as11 rfl) rfl ?_
                      refine AL.nil ?_
                      refine th_n ?_
                      refine AC.seq ?_
                      refine AC.seq ?_
                      refine AC.weak (t := ⟨104, 700, [(0, aS (bstr m)), (1, .d (vStr X)), (6, .d (vSigs g)), (7, aT b), (9, .own 101 g.length), (12, aI (1 + 2 * g.length)), (14, .own 102 g.length), (15, aT b)], [(101, some (.arr 43 2 (sigsL (mkSg 1 g.length)))), (102, some (.arr 43 2 (sigsL g)))]⟩) (Weak.ren _ [(101, _), (102, _)] hC rfl (by repeat (first | exact True.intro | refine And.intro ?_ ?_ | exact DLead.same | exact DLead.eqI (by omega) | exact DLead.eqI (by dsimp only; omega) | exact DLead.nil | exact rfl | refine ⟨_, _, rfl, rfl, ?_⟩ | refine ⟨_, rfl, ?_⟩ | refine ⟨_, _, rfl, ?_, ?_⟩)) (by repeat (first | exact True.intro | refine And.intro ?_ ?_ | exact DLead.same | exact DLead.eqI (by omega) | exact DLead.eqI (by dsimp only; omega) | exact DLead.nil | exact rfl | refine ⟨_, _, rfl, rfl, ?_⟩ | refine ⟨_, rfl, ?_⟩ | refine ⟨_, _, rfl, ?_, ?_⟩)) rfl rfl rfl) ?_
                      refine AC.region ?_
                      refine AL.p (by first | exact mv1 rfl | exact mv2 rfl | exact mv3 rfl | exact mv4 rfl | exact mv5 rfl | exact mv6 rfl | exact mv7 rfl | exact mv8 rfl | exact mv9 rfl | exact mv10 rfl | exact mv11 rfl) rfl ?_
                      refine AL.p (by first | exact mv1 rfl | exact mv2 rfl | exact mv3 rfl | exact mv4 rfl | exact mv5 rfl | exact mv6 rfl | exact mv7 rfl | exact mv8 rfl | exact mv9 rfl | exact mv10 rfl | exact mv11 rfl) rfl ?_
                      refine AL.q (by exact h_borrow [102] en_eqSigS rfl rfl hEq (.cons (.of (.own rfl rfl (gownl _) (gownt _))) (.cons (.of .d) .nil)) rfl) rfl ?_
                      refine AL.p (by first | exact g_not rfl | exact g_neg rfl (by first | exact wrap_i64 (by omega) | exact wrap_u8 (by omega) | exact wrap_u64 (by omega) | rfl)) rfl ?_
                      refine AL.p (by first | exact mv1 rfl | exact mv2 rfl | exact mv3 rfl | exact mv4 rfl | exact mv5 rfl | exact mv6 rfl | exact mv7 rfl | exact mv8 rfl | exact mv9 rfl | exact mv10 rfl | exact mv11 rfl) rfl ?_
                      first | refine AL.caseG rfl rfl (fun h10 => ?_) (fun h10 => ?_) | refine AL.caseGN rfl rfl (fun h10 => ?_) (fun h10 => ?_) | refine AL.caseGB rfl rfl (fun h10 => ?_) (fun h10 => ?_) | refine AL.caseGNB rfl rfl (fun h10 => ?_) (fun h10 => ?_)
                      · refine AL.not rfl rfl rfl rfl rfl ?_
                        refine AL.not rfl rfl rfl rfl rfl ?_
                        refine AL.not rfl rfl rfl rfl rfl ?_
                        refine AL.p (by first | exact g_pickT (r := .d _) rfl rfl | exact g_pickF (r := .d _) rfl rfl) rfl ?_
                        refine AL.nil ?_
                        refine th_n ?_
                        refine AC.condT rfl ?_
                        refine AC.seq ?_
                        first | (exfalso; omega) | exact absurd h24 (by simp) | exact absurd h23 (by simp) | exact absurd h22 (by simp) | exact absurd h21 (by simp) | exact absurd h20 (by simp) | exact absurd h19 (by simp) | exact absurd h18 (by simp) | exact absurd h17 (by simp) | exact absurd h16 (by simp) | exact absurd h15 (by simp) | exact absurd h14 (by simp) | exact absurd h13 (by simp) | exact absurd h12 (by simp) | exact absurd h11 (by simp) | exact absurd h10 (by simp) | exact absurd h9 (by simp) | exact absurd h8 (by simp) | exact absurd h7 (by simp) | exact absurd h6 (by simp) | exact absurd h5 (by simp) | exact absurd h4 (by simp) | exact absurd h3 (by simp) | exact absurd h2 (by simp) | exact absurd h1 (by simp) | exact absurd h0 (by simp)
                      · refine AL.yes rfl rfl rfl ?_
                        refine AL.p (by first | exact mv1 rfl | exact mv2 rfl | exact mv3 rfl | exact mv4 rfl | exact mv5 rfl | exact mv6 rfl | exact mv7 rfl | exact mv8 rfl | exact mv9 rfl | exact mv10 rfl | exact mv11 rfl) rfl ?_
                        refine AL.yes rfl rfl rfl ?_
                        refine AL.p (by first | exact mv1 rfl | exact mv2 rfl | exact mv3 rfl | exact mv4 rfl | exact mv5 rfl | exact mv6 rfl | exact mv7 rfl | exact mv8 rfl | exact mv9 rfl | exact mv10 rfl | exact mv11 rfl) rfl ?_
                        refine AL.yes rfl rfl rfl ?_
                        refine AL.p (by first | exact g_cmp rfl rfl rfl | exact g_scmp rfl rfl rfl | exact g_eqB rfl rfl rfl | exact g_neB rfl rfl rfl) rfl ?_
                        refine AL.p (by first | exact g_pickT (r := .d _) rfl rfl | exact g_pickF (r := .d _) rfl rfl) rfl ?_
                        refine AL.nil ?_
                        refine th_n ?_
                        first | refine AC.condD rfl (fun h11 => ?_) (fun h11 => ?_) | refine AC.condND rfl (fun h11 => ?_) (fun h11 => ?_) | refine AC.condB rfl (fun h11 => ?_) (fun h11 => ?_) | refine AC.condNB rfl (fun h11 => ?_) (fun h11 => ?_)
                        · refine AC.seq ?_
                          first | (exfalso; omega) | exact absurd h24 (by simp) | exact absurd h23 (by simp) | exact absurd h22 (by simp) | exact absurd h21 (by simp) | exact absurd h20 (by simp) | exact absurd h19 (by simp) | exact absurd h18 (by simp) | exact absurd h17 (by simp) | exact absurd h16 (by simp) | exact absurd h15 (by simp) | exact absurd h14 (by simp) | exact absurd h13 (by simp) | exact absurd h12 (by simp) | exact absurd h11 (by simp) | exact absurd h10 (by simp) | exact absurd h9 (by simp) | exact absurd h8 (by simp) | exact absurd h7 (by simp) | exact absurd h6 (by simp) | exact absurd h5 (by simp) | exact absurd h4 (by simp) | exact absurd h3 (by simp) | exact absurd h2 (by simp) | exact absurd h1 (by simp) | exact absurd h0 (by simp)
                        · refine AC.skip ?_
                          refine th_n ?_
                          refine AC.seq ?_
                          refine AC.region ?_
                          refine AL.p (by first | exact as1 rfl | exact as2 rfl | exact as3 rfl | exact as4 rfl | exact as5 rfl | exact as6 rfl | exact as7 rfl | exact as8 rfl | exact as9 rfl | exact as10 rfl | exact as11 rfl) rfl ?_
                          refine AL.nil ?_
                          refine th_n ?_
                          refine AC.seq ?_
                          refine AC.region ?_
                          refine AL.p (by first | exact mv1 rfl | exact mv2 rfl | exact mv3 rfl | exact mv4 rfl | exact mv5 rfl | exact mv6 rfl | exact mv7 rfl | exact mv8 rfl | exact mv9 rfl | exact mv10 rfl | exact mv11 rfl) rfl ?_
                          refine AL.p (by first | exact mv1 rfl | exact mv2 rfl | exact mv3 rfl | exact mv4 rfl | exact mv5 rfl | exact mv6 rfl | exact mv7 rfl | exact mv8 rfl | exact mv9 rfl | exact mv10 rfl | exact mv11 rfl) rfl ?_
                          refine AL.q (by exact h_borrow [101] en_heldSigS rfl rfl hHe (.cons (.of (.own rfl rfl (mgl _ _) (mgt _ _))) (.cons (.of .d) .nil)) rfl) rfl ?_
                          refine AL.p (by first | exact as1 rfl | exact as2 rfl | exact as3 rfl | exact as4 rfl | exact as5 rfl | exact as6 rfl | exact as7 rfl | exact as8 rfl | exact as9 rfl | exact as10 rfl | exact as11 rfl) rfl ?_
                          refine AL.nil ?_
                          refine th_n ?_
                          refine AC.seq ?_
                          refine AC.seq ?_
                          refine AC.region ?_
                          refine AL.p (by first | exact mv1 rfl | exact mv2 rfl | exact mv3 rfl | exact mv4 rfl | exact mv5 rfl | exact mv6 rfl | exact mv7 rfl | exact mv8 rfl | exact mv9 rfl | exact mv10 rfl | exact mv11 rfl) rfl ?_
                          refine AL.p (by first | exact g_cmp rfl rfl rfl | exact g_scmp rfl rfl rfl | exact g_eqB rfl rfl rfl | exact g_neB rfl rfl rfl) rfl ?_
                          refine AL.nil ?_
                          refine th_n ?_
                          first | refine AC.condD rfl (fun h12 => ?_) (fun h12 => ?_) | refine AC.condND rfl (fun h12 => ?_) (fun h12 => ?_) | refine AC.condB rfl (fun h12 => ?_) (fun h12 => ?_) | refine AC.condNB rfl (fun h12 => ?_) (fun h12 => ?_)
                          · refine AC.seq ?_
                            first | (exfalso; omega) | exact absurd h24 (by simp) | exact absurd h23 (by simp) | exact absurd h22 (by simp) | exact absurd h21 (by simp) | exact absurd h20 (by simp) | exact absurd h19 (by simp) | exact absurd h18 (by simp) | exact absurd h17 (by simp) | exact absurd h16 (by simp) | exact absurd h15 (by simp) | exact absurd h14 (by simp) | exact absurd h13 (by simp) | exact absurd h12 (by simp) | exact absurd h11 (by simp) | exact absurd h10 (by simp) | exact absurd h9 (by simp) | exact absurd h8 (by simp) | exact absurd h7 (by simp) | exact absurd h6 (by simp) | exact absurd h5 (by simp) | exact absurd h4 (by simp) | exact absurd h3 (by simp) | exact absurd h2 (by simp) | exact absurd h1 (by simp) | exact absurd h0 (by simp)
                          · refine AC.skip ?_
                            refine th_n ?_
                            refine AC.seq ?_
                            refine AC.seq ?_
                            refine AC.region ?_
                            refine AL.p (by first | exact mv1 rfl | exact mv2 rfl | exact mv3 rfl | exact mv4 rfl | exact mv5 rfl | exact mv6 rfl | exact mv7 rfl | exact mv8 rfl | exact mv9 rfl | exact mv10 rfl | exact mv11 rfl) rfl ?_
                            refine AL.p (by first | exact mv1 rfl | exact mv2 rfl | exact mv3 rfl | exact mv4 rfl | exact mv5 rfl | exact mv6 rfl | exact mv7 rfl | exact mv8 rfl | exact mv9 rfl | exact mv10 rfl | exact mv11 rfl) rfl ?_
                            refine AL.p (by first | exact g_cmp rfl rfl rfl | exact g_scmp rfl rfl rfl | exact g_eqB rfl rfl rfl | exact g_neB rfl rfl rfl) rfl ?_
                            refine AL.nil ?_
                            refine th_n ?_
                            first | refine AC.condD rfl (fun h13 => ?_) (fun h13 => ?_) | refine AC.condND rfl (fun h13 => ?_) (fun h13 => ?_) | refine AC.condB rfl (fun h13 => ?_) (fun h13 => ?_) | refine AC.condNB rfl (fun h13 => ?_) (fun h13 => ?_)
                            · refine AC.seq ?_
                              first | (exfalso; omega) | exact absurd h24 (by simp) | exact absurd h23 (by simp) | exact absurd h22 (by simp) | exact absurd h21 (by simp) | exact absurd h20 (by simp) | exact absurd h19 (by simp) | exact absurd h18 (by simp) | exact absurd h17 (by simp) | exact absurd h16 (by simp) | exact absurd h15 (by simp) | exact absurd h14 (by simp) | exact absurd h13 (by simp) | exact absurd h12 (by simp) | exact absurd h11 (by simp) | exact absurd h10 (by simp) | exact absurd h9 (by simp) | exact absurd h8 (by simp) | exact absurd h7 (by simp) | exact absurd h6 (by simp) | exact absurd h5 (by simp) | exact absurd h4 (by simp) | exact absurd h3 (by simp) | exact absurd h2 (by simp) | exact absurd h1 (by simp) | exact absurd h0 (by simp)
                            · refine AC.skip ?_
                              refine th_n ?_
                              refine AC.seq ?_
                              refine AC.region ?_
                              refine AL.p (by first | exact as1 rfl | exact as2 rfl | exact as3 rfl | exact as4 rfl | exact as5 rfl | exact as6 rfl | exact as7 rfl | exact as8 rfl | exact as9 rfl | exact as10 rfl | exact as11 rfl) rfl ?_
                              refine AL.nil ?_
                              refine th_n ?_
                              refine AC.ret ?_
                              refine bq_r ?_
                              exact ret1 rfl rfl
end Go.Proofs.Ytkfpoagjlaldgaa

set_option maxRecDepth 100000
set_option linter.all false
set_option maxRecDepth 20000
namespace Go.Proofs.Ytkfpoagjlaldgaa
open Go.ChangeShapes Go.WideShapes Go.ChangeAt Go.RowKit

section
variable {H : Type} {enc : TypeId × Value → H}
theorem rt_str : RT enc Try.prog 9 1 (fun s : List UInt8 => [dS (bstr s)]) (fun s => s.length ≤ 9223372036854775807) := RT.str Try.underlying9
theorem rt_strs : RT enc Try.prog 22 1 (fun l : List (List UInt8) => [vStr l]) ArgX := RT.slice 9 Try.underlying22 (by kernel_rfl) (by decide) rt_str
theorem arg_str {m : Nat → Option (Option Nat × Nat)} {base : Nat} {W : World} {v : Value} {d : DataW H} {ps : List MemPlace} (hv : Value.okWide Try.prog W .any base 9 v) (h : DataW.Trod enc Try.prog W 0 (fun _ => true) true 9 v d ps) : ∃ s : List UInt8, s.length ≤ 9223372036854775807 ∧ ARep m (fun k => k < W.heap.size) W (aS (bstr s)) v := by
  obtain ⟨s, rfl⟩ := okWide_string Try.underlying9 hv
  obtain ⟨a, h1, h2⟩ := rt_str.arg1 (cells_str s) h
  exact ⟨a, h1, .d (h2 _ rfl)⟩
theorem arg_strs {m : Nat → Option (Option Nat × Nat)} {base : Nat} {W : World} {v : Value} {d : DataW H} {ps : List MemPlace} (hv : Value.okWide Try.prog W .any base 22 v) (h : DataW.Trod enc Try.prog W 0 (fun _ => true) true 22 v d ps) : ∃ l : List (List UInt8), ArgX l ∧ ARep m (fun k => k < W.heap.size) W (.d (vStr l)) v := by
  obtain ⟨a, l, c, rfl⟩ := okWide_slice Try.underlying22 hv
  obtain ⟨x, h1, h2⟩ := rt_strs.arg1 (cells_slice a l c) h
  exact ⟨x, h1, .d (h2 _ rfl)⟩
end
end Go.Proofs.Ytkfpoagjlaldgaa

