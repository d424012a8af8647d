/- The law FnUnfolds: for all arguments it returns true. -/
import Derived.Test.YtbiinjejokhfgaaGreatRows
import Derived.Test.YtbiinjejokhfgaaGreatChecked
import Derived.Test.YtbiinjejokhfgaaGreatGUn9
set_option linter.all false
set_option maxRecDepth 20000
namespace Go.Proofs.YtbiinjejokhfgaaGreat
open Go.ChangeShapes Go.WideShapes Go.ChangeAt Go.RowKit

theorem argRep1 {m : Nat → Option (Option Nat × Nat)} {F : Nat → Prop} {W : World} {x : DV} {v : Value} (h : DRep F W x v) : ∀ (i : Nat) a, [AV.d x][i]? = some a → ARep m F W a ((#[v] : Array Value).getD i undef) := by
  intro i a hi
  match i with
  | 0 => cases hi; exact .d h
  | i + 1 => simp at hi
theorem argRep2 {m : Nat → Option (Option Nat × Nat)} {F : Nat → Prop} {W : World} {x y : DV} {v u : Value} (h : DRep F W x v) (h2 : DRep F W y u) : ∀ (i : Nat) a, [AV.d x, AV.d y][i]? = some a → ARep m F W a ((#[v, u] : Array Value).getD i undef) := by
  intro i a hi
  match i with
  | 0 => cases hi; exact .d h
  | 1 => cases hi; exact .d h2
  | i + 2 => simp at hi

namespace LawUn
theorem own : ownKnob Tryz.prog.godebug = none := by kernel_rfl
theorem laidOut : laidOutB Tryz.prog = true := by kernel_rfl
theorem cellsU8 : Tryz.prog.cellsOf 5 = 1 := by kernel_rfl
set_option maxRecDepth 100000 in
theorem lifted (os : Os) (started : os.Started) (H : Type) (enc : TypeId × Value → H) :
    ReturnsInHanded {} Tryz.checked os 6 .any (Rows.fnUnfoldsSpec.pre6 enc Tryz.prog Tryz.f6 Rows.fnUnfoldsRow.domain false) (Rows.fnUnfoldsSpec.post enc Tryz.prog Tryz.f6 false true false false) := by
  refine returnsInHanded_of_change (C := Tryz.checked) own started (by kernel_rfl) Tryz.func6
    (ChangeSpec.witness6 (enc := enc) (C := Tryz.checked) false ⟨#[], #[.slice none 0 0, .slice none 0 0], []⟩ 8 (by kernel_rfl) (by kernel_rfl) (by kernel_rfl) (by kernel_rfl)) ?_
  intro W base args ds gs before hval0 hW hcnd _
  have hval : ∀ (j : Nat) t v, Tryz.f6.params[j]? = some t → args[j]? = some v → Value.okWide Tryz.prog W .any base t v := hval0
  have hW' := hW
  obtain ⟨p, q, hA0, hV, rfl, hfz, hnd⟩ := hW
  have hA : DataW.TrodAll enc Tryz.prog W 0 (fun _ => true) true Tryz.f6.params.toList args.toList ds p := hA0
  rw [Tryz.params6] at hA hval
  obtain ⟨v0, v1, d0, d1, p0, p1, rfl, rfl, rfl, h0, h1⟩ := trodAll_two hA
  obtain ⟨rfl, rfl⟩ := trodVars_none hV
  clear hA0
  simp only [List.append_nil] at hW'
  have hlt : ∀ x ∈ p0 ++ p1, x.block < W.heap.size := fun x hx => by simpa using hW'.lt x hx
  obtain ⟨xs, hx, hR0⟩ := arg_bytes (te := 5) Tryz.underlying22 Tryz.underlying5 cellsU8 (hval 0 22 v0 rfl rfl) h0
  obtain ⟨ys, hy, hR1⟩ := arg_bytes (te := 5) Tryz.underlying22 Tryz.underlying5 cellsU8 (hval 1 22 v1 rfl rfl) h1
  refine (ASpec.law (vs := #[v0, v1]) (FnUnfolds_spec xs ys hx hy) rfl (argRep2 hR0 hR1)).mono fun e W' ⟨he, hg⟩ => ?_
  subst he
  exact ⟨_, rfl, _, _, _, [], _, [], hW', (trodAll_cons_mk (shut_bool Tryz.underlying4 _) trodAll_mk0), trodAll_mk2 (Below.trod laidOut (by kernel_rfl) (of_decide_eq_true (by kernel_rfl)) h0 hg (fun x hx => hlt x (List.mem_append.2 (.inl hx)))) (Below.trod laidOut (by kernel_rfl) (of_decide_eq_true (by kernel_rfl)) h1 hg (fun x hx => hlt x (List.mem_append.2 (.inr hx)))), rfl, hg.frame _, fun h => by cases h⟩

theorem proved : Rows.FnUnfoldsSaid :=
  OpenClaim.holds_of_wide 6 Tryz.f6 rfl rfl rfl rfl rfl rfl rfl ⟨rfl, rfl, rfl, rfl, rfl⟩ rfl rfl rfl rfl rfl (by kernel_rfl) Tryz.func6 (by kernel_rfl)
    (of_decide_eq_true (by kernel_rfl)) (by unfold Func.isWrapper; first | (rw [if_pos (by decide +kernel)]; kernel_rfl) | (rw [if_neg (by decide +kernel)]; exact ⟨rfl, rfl⟩))
    (fun os started H enc _ => lifted os started H enc)
end LawUn
#print axioms LawUn.proved
end Go.Proofs.YtbiinjejokhfgaaGreat

