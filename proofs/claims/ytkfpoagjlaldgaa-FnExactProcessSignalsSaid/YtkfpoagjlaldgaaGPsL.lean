/- The law FnExactProcessSignals: for all arguments it returns true. -/
import Derived.Test.YtkfpoagjlaldgaaRows
import Derived.Test.YtkfpoagjlaldgaaChecked
import Derived.Test.YtkfpoagjlaldgaaGPs4
set_option linter.all false
set_option maxRecDepth 20000
namespace Go.Proofs.Ytkfpoagjlaldgaa
open Go.ChangeShapes Go.WideShapes Go.ChangeAt Go.RowKit

namespace LawPs
theorem own : ownKnob Try.prog.godebug = none := by kernel_rfl
theorem laidOut : laidOutB Try.prog = true := by kernel_rfl
set_option maxRecDepth 100000 in
theorem lifted (os : Os) (started : os.Started) (H : Type) (enc : TypeId × Value → H) :
    ReturnsInHanded {} Try.checked os 3 .any (Rows.fnExactProcessSignalsSpec.pre6 enc Try.prog Try.f3 Rows.fnExactProcessSignalsRow.domain false) (Rows.fnExactProcessSignalsSpec.post enc Try.prog Try.f3 false true false false) := by
  refine returnsInHanded_of_change (C := Try.checked) own started (by kernel_rfl) Try.func3
    (ChangeSpec.witness6 (enc := enc) (C := Try.checked) false ⟨#[], #[.string ByteArray.empty, .slice none 0 0], []⟩ 8 (by kernel_rfl) (by kernel_rfl) (by kernel_rfl) (by kernel_rfl)) ?_
  intro W base args ds gs before hval0 hW hcnd _
  have hval : ∀ (j : Nat) t v, Try.f3.params[j]? = some t → args[j]? = some v → Value.okWide Try.prog W .any base t v := hval0
  have hW' := hW
  obtain ⟨p, q, hA0, hV, rfl, hfz, hnd⟩ := hW
  have hA : DataW.TrodAll enc Try.prog W 0 (fun _ => true) true Try.f3.params.toList args.toList ds p := hA0
  rw [Try.params3] at hA hval
  obtain ⟨v0, vs0, d0, ds0, p0, q0, ha0, rfl, rfl, h0, r0⟩ := trodAll_cons hA
  obtain ⟨v1, vs1, d1, ds1, p1, q1, ha1, rfl, rfl, h1, r1⟩ := trodAll_cons r0
  obtain ⟨rfl, rfl, rfl⟩ := trodAll_nil r1
  obtain rfl : args = #[v0, v1] := by cases args; simp_all
  obtain ⟨rfl, rfl⟩ := trodVars_none hV
  clear hA0 hA
  simp only [List.append_nil] at hW'
  have hlt : ∀ x ∈ p0 ++ p1, x.block < W.heap.size := fun x hx => by simpa using hW'.lt x (by simpa using hx)
  obtain ⟨x0, hx0, hR0⟩ := arg_str (m := fun _ => none) (hval 0 9 v0 rfl rfl) h0
  obtain ⟨x1, hx1, hR1⟩ := arg_strs (m := fun _ => none) (hval 1 22 v1 rfl rfl) h1
  have hRs : AReps (fun _ => none) (fun k => k < W.heap.size) W _ [v0, v1] := (.cons hR0 (.cons hR1 .nil))
  refine (ASpec.law (vs := #[v0, v1]) (FnExactProcessSignals_spec x0 x1 hx0 hx1) rfl (fun i x hi => hRs.at i x hi)).mono fun e W' ⟨he, hg⟩ => ?_
  subst he
  exact ⟨_, rfl, _, _, _, [], _, [], hW', (trodAll_cons_mk (shut_bool Try.underlying4 _) trodAll_mk0), (trodAll_cons_mk (Below.trod laidOut (by kernel_rfl) (of_decide_eq_true (by kernel_rfl)) h0 hg (fun x hx => hlt x (by simp [hx]))) (trodAll_cons_mk (Below.trod laidOut (by kernel_rfl) (of_decide_eq_true (by kernel_rfl)) h1 hg (fun x hx => hlt x (by simp [hx]))) trodAll_mk0)), rfl, hg.frame _, fun h => by cases h⟩

theorem proved : Rows.FnExactProcessSignalsSaid :=
  OpenClaim.holds_of_wide 3 Try.f3 rfl rfl rfl rfl rfl rfl rfl ⟨rfl, rfl, rfl, rfl, rfl⟩ rfl rfl rfl rfl rfl (by kernel_rfl) Try.func3 (by kernel_rfl)
    (of_decide_eq_true (by kernel_rfl)) (by unfold Func.isWrapper; first | (rw [if_pos (by decide +kernel)]; kernel_rfl) | (rw [if_neg (by decide +kernel)]; exact ⟨rfl, rfl⟩))
    (fun os started H enc _ => lifted os started H enc)
end LawPs
#print axioms LawPs.proved
end Go.Proofs.Ytkfpoagjlaldgaa

