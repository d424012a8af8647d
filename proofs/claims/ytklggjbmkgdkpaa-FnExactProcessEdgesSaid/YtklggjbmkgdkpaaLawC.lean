/- The law FnExactProcessEdges: for every string the program's ProcessEdges returns what the reference's returns. -/
import Derived.Test.YtklggjbmkgdkpaaEdges2
import Derived.Test.YtklggjbmkgdkpaaLawA
set_option linter.unusedVariables false
namespace Go.Proofs.Ytklggjbmkgdkpaa
open Go.ChangeShapes Go.WideShapes Go.ChangeAt Go.RowKit
open Go.ChangeMaps (open_string shut_string)

theorem Own.low {B : Nat} {e : TypeId} {w w' : World} {v : Value} {l : List ByteArray} {S : List Nat} (h : Own (fun k => B ≤ k) (fun _ => False) e Ty.str w v l) (f : Fr S w w') (hS : ∀ q, q ∈ S → w.heap.size ≤ q) : Own (fun k => B ≤ k) (fun _ => False) e Ty.str w' v l :=
  h.frame f (fun g hg hm => by have := (h.lt hg).2; have := hS g hm; omega) (fun _ _ hh => hh.1)

set_option maxHeartbeats 1000000 in
theorem lawC_any (s : ByteArray) (w : World) (hs : s.size ≤ 9223372036854775807) : Calls Try.prog 5 #[.string s] w (RetF (.bool true) w) := by
  by_cases hz : s.size ≤ 1048576
  · have hz' : decide ((1048576 : Int) < (s.size : Int)) = false := by simp; omega
    have h1 := sEdges_any s
    have h2 := iEdges_any s
    have hl := edgesOf_len s
    generalize edgesOf s = l at *
    generalize (procOf s).isSome = bb at *
    have hne : (bb != bb) = false := by simp
    have hq1 : decide ((1 : Int) + (l.length : Int) < 0) = false := by simp; omega
    have hq2 : (((1 : Int) + (l.length : Int)) != ((1 : Int) + (l.length : Int))) = false := by simp
    have H1 := Lib.hid h1
    have H2 := Lib.hid h2
    clear h1 h2
    go_enter Try.func5, Try.ntmps5
    go_upto_region 4 with (go_at_call 13; refine (H1.out _ hs).mono ?_; rintro e w2 ⟨v2, rfl, hO2, hf2⟩)
    go_upto_region 5 with (go_at_call 14; refine (H2.out _ hs).mono ?_; rintro e w3 ⟨v3, rfl, hO3, hf3⟩)
    have E1 := eqStringS_same l v3 v2 w3 (hO3.sl.mono (fun _ _ => trivial)) ((hO2.flat hf3).sl.mono (fun _ _ => trivial))
    have F3 := Lib.hid (hf2.trans hf3)
    have O3 := Lib.hid hO3
    have O2 := Lib.hid (hO2.flat hf3)
    have O2b := Lib.hid (show ∀ g, v2.ownBlock = some g → g < w2.heap.size from fun g hg => (hO2.lt hg).2)
    have S23 := hf3.size
    have S12 := hf2.size
    clear hf2 hf3 hO2 hO3
    go_upto_region 7 with (go_at_call 15; refine E1.mono ?_; rintro e w4 ⟨rfl, n4, rfl⟩)
    clear E1
    go_upto_region 9 with (go_at_call 16; refine (markStringS_any _ l 1 v3 _ (by omega) (by omega) (O3.out.flat ((Fr.refl [] w3).drewN n4))).mono ?_; rintro e w5 ⟨rfl, hO5, hf5⟩)
    have F5 := Lib.hid ((F3.out.drewN n4).trans_new hf5 (fun q hq => .inr (by have := (O3.out.lt (g := q) (by simpa using hq)).1; omega)))
    have O25 := Lib.hid ((O2.out.flat ((Fr.refl [] w3).drewN n4)).frame hf5 (fun g hg hm => by have := O2b.out g hg; have := (O3.out.lt (g := g) (by simpa using hm)).1; omega) (fun _ _ hh => hh.1))
    have HL5 := Lib.hid hO5
    have S35 := hf5.size
    clear hf5 hO5
    go_upto_region 11 with (go_at_call 17; refine (heldStringS_any (marks 1 l.length) 1 v3 _ (by rw [marks_len]; omega) (by omega) (by rw [marks_len]) (HL5.out.sl.mono (fun _ _ => trivial))).mono ?_; rw [marks_len]; rintro e w6 ⟨rfl, hf6⟩)
    go_upto_region 16 with (go_at_call 14; refine (H2.out _ hs).mono ?_; rintro e w7 ⟨v7, rfl, hO7, hf7⟩)
    have f57 := hf6.trans hf7
    have E7 := eqStringS_same l v7 v2 w7 (hO7.sl.mono (fun _ _ => trivial)) ((O25.out.flat f57).sl.mono (fun _ _ => trivial))
    have HL7 := Lib.hid (HL5.out.flat f57)
    have F7 := Lib.hid (F5.out.trans f57)
    clear hf6 hf7 f57 hO7
    go_upto_region 18 with (go_at_call 15; refine E7.mono ?_; rintro e w8 ⟨rfl, n8, rfl⟩)
    clear E7
    go_wp2_with (go_at_call 17; refine (heldStringS_any (marks 1 l.length) 1 v3 _ (by rw [marks_len]; omega) (by omega) (by rw [marks_len]) ((HL7.out.flat ((Fr.refl [] w7).drewN n8)).sl.mono (fun _ _ => trivial))).mono ?_; rw [marks_len]; rintro e w9 ⟨rfl, hf9⟩)
    go_ret
    exact ⟨rfl, (F7.out.drewN n8).trans hf9⟩
  · have hz' : decide ((1048576 : Int) < (s.size : Int)) = true := by simp; omega
    go_enter Try.func5, Try.ntmps5
    go_wp2_with fail
    go_ret
    exact ⟨rfl, Fr.refl _ _⟩

namespace LawC
set_option maxRecDepth 100000 in
theorem lifted (os : Os) (started : os.Started) (H : Type) (enc : TypeId × Value → H) :
    ReturnsInHanded {} Try.checked os 5 .any (Rows.fnExactProcessEdgesSpec.pre6 enc Try.prog Try.f5 Rows.fnExactProcessEdgesRow.domain false) (Rows.fnExactProcessEdgesSpec.post enc Try.prog Try.f5 false true false false) := by
  refine returnsInHanded_of_change (C := Try.checked) LawA.own started (by kernel_rfl) Try.func5
    (ChangeSpec.witness6 (enc := enc) (C := Try.checked) false ⟨#[], #[.string ByteArray.empty], []⟩ 8 (by kernel_rfl) (by kernel_rfl) (by kernel_rfl) (by kernel_rfl)) ?_
  intro W base args ds gs before hval0 hW hcnd _
  have hval : ∀ (j : Nat) t v, Try.f5.params[j]? = some t → args[j]? = some v → Value.okWide Try.prog W .any base t v := hval0
  have hW' := hW
  obtain ⟨p, q, hA0, hV, rfl, hfz, hnd⟩ := hW
  have hA : DataW.TrodAll enc Try.prog W 0 (fun _ => true) true Try.f5.params.toList args.toList ds p := hA0
  rw [Try.params5] at hA hval
  obtain ⟨v0, vs0, d0, ds0, p0, q0, hargs, rfl, rfl, h0, r0⟩ := trodAll_cons hA
  obtain ⟨rfl, rfl, rfl⟩ := trodAll_nil r0
  obtain rfl : args = #[v0] := by cases args; simp_all
  obtain ⟨rfl, rfl⟩ := trodVars_none hV
  obtain ⟨a0, rfl, rfl, rfl, w0⟩ := open_string Try.underlying9 (hval 0 9 v0 rfl rfl) h0
  clear hA0 hval0
  simp only [List.append_nil] at hW'
  refine (lawC_any a0 W (by simpa [maxLen] using w0)).mono fun e W' ⟨he, hg⟩ => ?_
  subst he
  exact ⟨_, rfl, _, _, _, [], [], [], hW', (trodAll_cons_mk (shut_bool Try.underlying4 _) trodAll_mk0), (trodAll_cons_mk (shut_string Try.underlying9 w0) trodAll_mk0), rfl, hg.below.frame _, fun h => by cases h⟩

theorem proved : Rows.FnExactProcessEdgesSaid :=
  OpenClaim.holds_of_wide 5 Try.f5 rfl rfl rfl rfl rfl rfl rfl ⟨rfl, rfl, rfl, rfl, rfl⟩ rfl rfl rfl rfl rfl (by kernel_rfl) Try.func5 (by kernel_rfl)
    (of_decide_eq_true (by kernel_rfl)) (by unfold Func.isWrapper; first | (rw [if_pos (by decide +kernel)]; kernel_rfl) | (rw [if_neg (by decide +kernel)]; exact ⟨rfl, rfl⟩))
    (fun os started H enc _ => lifted os started H enc)
end LawC
#print axioms LawC.proved
end Go.Proofs.Ytklggjbmkgdkpaa
