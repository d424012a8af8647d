/- The law FnExactIsValidProcess: for every string the program's IsValidProcess returns what the reference's returns. -/
import Derived.Test.YtklggjbmkgdkpaaProc2
import Derived.ProofKit
import Derived.OpenShut
import Derived.ShutString
namespace Go.Proofs.Ytklggjbmkgdkpaa
set_option linter.unusedVariables false
open Go.ChangeShapes Go.WideShapes Go.ChangeAt Go.RowKit
open Go.ChangeMaps (open_string shut_string)

/-- The call returns v; nothing that was there has turned. -/
def RetF (v : Value) (w : World) (e : Ending) (w' : World) : Prop := e = .returned v ∧ Fr [] w w'
theorem RetF.le {v : Value} {w0 w : World} {e : Ending} {w' : World} (h : RetF v w e w') (f : Fr [] w0 w) : RetF v w0 e w' := ⟨h.1, f.trans h.2⟩

theorem sIsValid_any (s : ByteArray) (w : World) (hs : s.size ≤ 9223372036854775807) : Calls Try.prog 9 #[.string s] w (RetF (.bool (procOf s).isSome) w) := by
  go_enter Try.func9, Try.ntmps9
  go_wp2_with (go_at_call 29; refine (read_any s _ hs).mono ?_; rintro e w2 ⟨i, bad, ns, most, rfl, ⟨nv, hb, hN⟩, hf, hm⟩; have hc2 := hb.cell 2 rfl; have HM := Lib.hid hm; clear hm hN)
  go_ret
  refine ⟨?_, hf⟩
  have hm := HM.out
  cases hp : procOf s with
  | none => rw [hp] at hm; simp only at hm; subst hm; rfl
  | some ts => rw [hp] at hm; obtain ⟨rfl, _⟩ := hm; rfl

theorem iIsValid_any (s : ByteArray) (w : World) (hs : s.size ≤ 9223372036854775807) : Calls Try.prog 10 #[.string s] w (RetF (.bool (procOf s).isSome) w) := by
  cases hp : procOf s with
  | none =>
    have HP := Lib.hid hp
    clear hp
    go_enter Try.func10, Try.ntmps10
    go_wp2_with (go_at_call 30; refine (rowOf_any s _ hs).mono ?_; rintro e w2 ⟨v, hf, hm⟩; rw [HP.out] at hm; obtain ⟨rfl, rfl⟩ := hm)
    go_ret
    exact ⟨rfl, hf⟩
  | some ts =>
    have HP := Lib.hid hp
    clear hp
    go_enter Try.func10, Try.ntmps10
    go_wp2_with (go_at_call 30; refine (rowOf_any s _ hs).mono ?_; rintro e w2 ⟨v, hf, hm⟩; rw [HP.out] at hm; obtain ⟨rfl, hsl⟩ := hm)
    go_ret
    exact ⟨rfl, hf⟩

theorem lawA_any (s : ByteArray) (w : World) (hs : s.size ≤ 9223372036854775807) : Calls Try.prog 3 #[.string s] w (RetF (.bool true) w) := by
  by_cases hz : s.size ≤ 1048576
  · have hz' : decide ((1048576 : Int) < (s.size : Int)) = false := by simp; omega
    have hne : ((procOf s).isSome != (procOf s).isSome) = false := by simp
    generalize hq : (procOf s).isSome = q at hne
    have HQ := Lib.hid hq
    clear hq
    go_enter Try.func3, Try.ntmps3
    go_wp2_with (first
      | (go_at_call 9; refine (sIsValid_any s _ hs).mono ?_; rw [HQ.out]; rintro e w2 ⟨rfl, hf2⟩)
      | (go_at_call 10; refine (iIsValid_any s _ hs).mono ?_; rw [HQ.out]; rintro e w3 ⟨rfl, hf3⟩))
    go_ret
    exact ⟨rfl, hf2.trans hf3⟩
  · have hz' : decide ((1048576 : Int) < (s.size : Int)) = true := by simp; omega
    go_enter Try.func3, Try.ntmps3
    go_wp2_with fail
    go_ret
    exact ⟨rfl, Fr.refl _ _⟩

namespace LawA
theorem own : ownKnob Try.prog.godebug = none := by kernel_rfl
set_option maxRecDepth 100000 in
theorem lifted (os : Os) (started : os.Started) (H : Type) (enc : TypeId × Value → H) :
    ReturnsInHanded {} Try.checked os 3 .any (Rows.fnExactIsValidProcessSpec.pre6 enc Try.prog Try.f3 Rows.fnExactIsValidProcessRow.domain false) (Rows.fnExactIsValidProcessSpec.post enc Try.prog Try.f3 false true false false) := by
  refine returnsInHanded_of_change (C := Try.checked) own started (by kernel_rfl) Try.func3
    (ChangeSpec.witness6 (enc := enc) (C := Try.checked) false ⟨#[], #[.string ByteArray.empty], []⟩ 8 (by kernel_rfl) (by kernel_rfl) (by kernel_rfl) (by kernel_rfl)) ?_
  intro W base args ds gs before hval0 hW hcnd _
  have hval : ∀ (j : Nat) t v, Try.f3.params[j]? = some t → args[j]? = some v → Value.okWide Try.prog W .any base t v := hval0
  have hW' := hW
  obtain ⟨p, q, hA0, hV, rfl, hfz, hnd⟩ := hW
  have hA : DataW.TrodAll enc Try.prog W 0 (fun _ => true) true Try.f3.params.toList args.toList ds p := hA0
  rw [Try.params3] at hA hval
  obtain ⟨v0, vs0, d0, ds0, p0, q0, hargs, rfl, rfl, h0, r0⟩ := trodAll_cons hA
  obtain ⟨rfl, rfl, rfl⟩ := trodAll_nil r0
  obtain rfl : args = #[v0] := by cases args; simp_all
  obtain ⟨rfl, rfl⟩ := trodVars_none hV
  obtain ⟨a0, rfl, rfl, rfl, w0⟩ := open_string Try.underlying9 (hval 0 9 v0 rfl rfl) h0
  clear hA0 hval0
  simp only [List.append_nil] at hW'
  refine (lawA_any a0 W (by simpa [maxLen] using w0)).mono fun e W' ⟨he, hg⟩ => ?_
  subst he
  exact ⟨_, rfl, _, _, _, [], [], [], hW', (trodAll_cons_mk (shut_bool Try.underlying4 _) trodAll_mk0), (trodAll_cons_mk (shut_string Try.underlying9 w0) trodAll_mk0), rfl, hg.below.frame _, fun h => by cases h⟩

theorem proved : Rows.FnExactIsValidProcessSaid :=
  OpenClaim.holds_of_wide 3 Try.f3 rfl rfl rfl rfl rfl rfl rfl ⟨rfl, rfl, rfl, rfl, rfl⟩ rfl rfl rfl rfl rfl (by kernel_rfl) Try.func3 (by kernel_rfl)
    (of_decide_eq_true (by kernel_rfl)) (by unfold Func.isWrapper; first | (rw [if_pos (by decide +kernel)]; kernel_rfl) | (rw [if_neg (by decide +kernel)]; exact ⟨rfl, rfl⟩))
    (fun os started H enc _ => lifted os started H enc)
end LawA
#print axioms LawA.proved
end Go.Proofs.Ytklggjbmkgdkpaa
