/- The law FnExactExpandHandshakes: for every string the program's ExpandHandshakes returns what the reference's returns. -/
import Derived.Test.YtklggjbmkgdkpaaText3
import Derived.Test.YtklggjbmkgdkpaaLawA
set_option linter.unusedVariables false
namespace Go.Proofs.Ytklggjbmkgdkpaa
open Go.ChangeShapes Go.WideShapes Go.ChangeAt Go.RowKit
open Go.ChangeMaps (open_string shut_string)

def fullText (ts : List Tr) : ByteArray := bs [42, 91] ++ jn 59 (txRow (expandRow ts)) ++ bs [93]
def expOf (s : ByteArray) : Option ByteArray := match procOf s with
  | none => none
  | some ts => if (fullText ts).size ≤ 200 then some (fullText ts) else none
def strOf (o : Option ByteArray) : ByteArray := o.getD ByteArray.empty
theorem expOf_none {s : ByteArray} (h : procOf s = none) : expOf s = none := by unfold expOf; rw [h]
theorem expOf_some {s : ByteArray} {ts : List Tr} (h : procOf s = some ts) : expOf s = if (fullText ts).size ≤ 200 then some (fullText ts) else none := by unfold expOf; rw [h]
def ExpRet (s : ByteArray) (w : World) (e : Ending) (w' : World) : Prop := e = .returned (.tuple #[.string (strOf (expOf s)), .bool (expOf s).isSome]) ∧ Fr [] w w'
theorem ExpRet.none {s : ByteArray} {w w' : World} {e : Ending} (h : expOf s = none) (he : e = .returned (.tuple #[.string ByteArray.empty, .bool false])) (f : Fr [] w w') : ExpRet s w e w' := ⟨by rw [h]; exact he, f⟩
theorem ExpRet.some {s t : ByteArray} {w w' : World} {e : Ending} (h : expOf s = some t) (he : e = .returned (.tuple #[.string t, .bool true])) (f : Fr [] w w') : ExpRet s w e w' := ⟨by rw [h]; exact he, f⟩

theorem sExp_any (s : ByteArray) (w : World) (hs : s.size ≤ 9223372036854775807) : Calls Try.prog 18 #[.string s] w (ExpRet s w) := by
  cases hp : procOf s with
  | none =>
    have HE := Lib.hid (expOf_none hp)
    have HP := Lib.hid hp
    clear hp
    go_enter Try.func18, Try.ntmps18
    go_wp2_with (go_at_call 29; refine (read_any s _ hs).mono ?_; rintro e w2 ⟨i, bad, ns, most, rfl, ⟨nv, hb, hN⟩, hf, hm⟩; rw [HP.out] at hm; subst hm; have hc2 := hb.cell 2 rfl; clear hN)
    go_ret2
    exact .none HE.out rfl hf
  | some ts =>
    obtain ⟨k1, k2, k3⟩ := procOf_ok hp
    have hx := expOf_some hp
    have hT : fullText ts = bs [42, 91] ++ jn 59 (txRow (expandRow ts)) ++ bs [93] := rfl
    have hln : (layRow 0 ts).length ≤ 100000 := by have := layRow_len ts k2 0; omega
    have hl0 : 1 ≤ (layRow 0 ts).length := by simp [layRow]
    have hlt := layRow_text ts k1 k2 _ (Nat.le_refl _)
    have hjs : (jn 59 (txRow (expandRow ts))).size ≤ 100000 := by have := jn_le_jt 59 (txRow (expandRow ts)); have := txRow_size ts k2; omega
    generalize jn 59 (txRow (expandRow ts)) = J at *
    have HLT := Lib.hid hlt
    have HT := Lib.hid hT
    have HX := Lib.hid hx
    have HP := Lib.hid hp
    clear hp hx hT hlt k1 k2 k3
    go_enter Try.func18, Try.ntmps18
    go_upto_region 5 with (first
      | (go_at_call 29; refine (read_any s _ hs).mono ?_; rintro e w2 ⟨i, bad, ns, most, rfl, hlp, hf, hm⟩; rw [HP.out] at hm; obtain ⟨rfl, rfl, rfl⟩ := hm; have HLP := Lib.hid hlp; obtain ⟨nv, hb, hN⟩ := hlp; have hc2 := hb.cell 2 rfl; have hc3 := hb.cell 3 rfl; obtain ⟨aN, cN, rfl⟩ := hN.form; clear hN)
      | (go_at_call 36; refine (lpText_any _ _ _ _ _ _ _ _ _ _ _ HLP.out hln HLT.out.1 (by rw [HLT.out.2]; exact hjs)).mono ?_; rw [HLT.out.2]; rintro e w3 ⟨rfl, hf3⟩))
    have hfr := hf.trans hf3
    clear hf hf3 hb
    have hsz : (bs [42, 91] ++ J ++ bs [93]).size = J.size + 3 := by simp only [ByteArray.size_append, show ∀ c, (bs [c]).size = 1 from fun _ => rfl, show (bs [42, 91]).size = 2 from rfl]; omega
    by_cases hz : J.size + 3 ≤ 200
    · have HE := Lib.hid (show expOf s = some (bs [42, 91] ++ J ++ bs [93]) by rw [HX.out, if_pos (by rw [HT.out, hsz]; exact hz), HT.out])
      have hz' : decide ((200 : Int) < 2 + (J.size : Int) + 1) = false := by simp; omega
      go_wp2
      go_ret2
      exact .some HE.out rfl hfr
    · have HE := Lib.hid (show expOf s = none by rw [HX.out, if_neg (by rw [HT.out, hsz]; exact hz)])
      have hz' : decide ((200 : Int) < 2 + (J.size : Int) + 1) = true := by simp; omega
      go_wp2
      go_ret2
      exact .none HE.out rfl hfr

theorem iExp_any (s : ByteArray) (w : World) (hs : s.size ≤ 9223372036854775807) : Calls Try.prog 19 #[.string s] w (ExpRet s w) := by
  cases hp : procOf s with
  | none =>
    have HE := Lib.hid (expOf_none hp)
    have HP := Lib.hid hp
    clear hp
    go_enter Try.func19, Try.ntmps19
    go_wp2_with (go_at_call 30; refine (rowOf_any s _ hs).mono ?_; rintro e w2 ⟨v, hf, hm⟩; rw [HP.out] at hm; obtain ⟨rfl, rfl⟩ := hm)
    go_ret2
    exact .none HE.out rfl hf
  | some ts =>
    obtain ⟨k1, k2, k3⟩ := procOf_ok hp
    have hx := expOf_some hp
    have hT : fullText ts = bs [42, 91] ++ jn 59 (txRow (expandRow ts)) ++ bs [93] := rfl
    have hgd := (partsRow_good ts k2).2
    have hjs : (jn 59 (txRow (expandRow ts))).size ≤ 100000 := by have := jn_le_jt 59 (txRow (expandRow ts)); have := txRow_size ts k2; omega
    obtain ⟨J, hJ⟩ : ∃ J, J = jn 59 (txRow (expandRow ts)) := ⟨_, rfl⟩
    rw [← hJ] at hT hjs
    have HJ := Lib.hid hJ
    have HG := Lib.hid hgd
    have K2 := Lib.hid k2
    have HT := Lib.hid hT
    have HX := Lib.hid hx
    have HP := Lib.hid hp
    clear hp hx hT k1 k2 hJ hgd
    go_enter Try.func19, Try.ntmps19
    go_upto_region 5 with (first
      | (go_at_call 30; refine (rowOf_any s _ hs).mono ?_; rintro e w2 ⟨v, hf, hm⟩; rw [HP.out] at hm; obtain ⟨rfl, hsl⟩ := hm)
      | (go_at_call 34; refine (expanded_any _ ts v _ (Nat.lt_succ_self _) K2.out (by omega) (hsl.mono (fun _ _ => trivial))).mono ?_; rintro e w3 ⟨v3, rfl, hsl3, hf3⟩)
      | (go_at_call 37; refine (rowText_any _ (expandRow ts) v3 _ (Nat.lt_succ_self _) (by rw [← HJ.out]; exact hjs) (fun p hp => by rcases (HG.out p hp).1 with h | h <;> rw [h] <;> decide) (hsl3.mono (fun _ _ => trivial))).mono ?_; rw [← HJ.out]; rintro e w4 ⟨rfl, hf4⟩))
    have hfr := (hf.trans hf3).trans hf4
    clear hf hf3 hf4 hsl hsl3
    have hsz : (bs [42, 91] ++ J ++ bs [93]).size = J.size + 3 := by simp only [ByteArray.size_append, show ∀ c, (bs [c]).size = 1 from fun _ => rfl, show (bs [42, 91]).size = 2 from rfl]; omega
    by_cases hz : J.size + 3 ≤ 200
    · have HE := Lib.hid (show expOf s = some (bs [42, 91] ++ J ++ bs [93]) by rw [HX.out, if_pos (by rw [HT.out, hsz]; exact hz), HT.out])
      have hz' : decide ((200 : Int) < 2 + (J.size : Int) + 1) = false := by simp; omega
      go_wp2
      go_ret2
      exact .some HE.out rfl hfr
    · have HE := Lib.hid (show expOf s = none by rw [HX.out, if_neg (by rw [HT.out, hsz]; exact hz)])
      have hz' : decide ((200 : Int) < 2 + (J.size : Int) + 1) = true := by simp; omega
      go_wp2
      go_ret2
      exact .none HE.out rfl hfr

theorem lawD_any (s : ByteArray) (w : World) (hs : s.size ≤ 9223372036854775807) : Calls Try.prog 6 #[.string s] w (RetF (.bool true) w) := by
  by_cases hz : s.size ≤ 1048576
  · have hz' : decide ((1048576 : Int) < (s.size : Int)) = false := by simp; omega
    have h1 := sExp_any s
    have h2 := iExp_any s
    unfold ExpRet at h1 h2
    generalize strOf (expOf s) = l at *
    generalize (expOf s).isSome = bb at *
    have hne : (bb != bb) = false := by simp
    have H1 := Lib.hid h1
    have H2 := Lib.hid h2
    clear h1 h2
    go_enter Try.func6, Try.ntmps6
    go_wp2_with (first
      | (go_at_call 18; refine (H1.out _ hs).mono ?_; rintro e w2 ⟨rfl, hf2⟩)
      | (go_at_call 19; refine (H2.out _ hs).mono ?_; rintro e w3 ⟨rfl, hf3⟩))
    go_ret
    exact ⟨rfl, hf2.trans hf3⟩
  · have hz' : decide ((1048576 : Int) < (s.size : Int)) = true := by simp; omega
    go_enter Try.func6, Try.ntmps6
    go_wp2_with fail
    go_ret
    exact ⟨rfl, Fr.refl _ _⟩

namespace LawD
set_option maxRecDepth 100000 in
theorem lifted (os : Os) (started : os.Started) (H : Type) (enc : TypeId × Value → H) :
    ReturnsInHanded {} Try.checked os 6 .any (Rows.fnExactExpandHandshakesSpec.pre6 enc Try.prog Try.f6 Rows.fnExactExpandHandshakesRow.domain false) (Rows.fnExactExpandHandshakesSpec.post enc Try.prog Try.f6 false true false false) := by
  refine returnsInHanded_of_change (C := Try.checked) LawA.own started (by kernel_rfl) Try.func6
    (ChangeSpec.witness6 (enc := enc) (C := Try.checked) false ⟨#[], #[.string ByteArray.empty], []⟩ 8 (by kernel_rfl) (by kernel_rfl) (by kernel_rfl) (by kernel_rfl)) ?_
  intro W base args ds gs before hval0 hW hcnd _
  have hval : ∀ (j : Nat) t v, Try.f6.params[j]? = some t → args[j]? = some v → Value.okWide Try.prog W .any base t v := hval0
  have hW' := hW
  obtain ⟨p, q, hA0, hV, rfl, hfz, hnd⟩ := hW
  have hA : DataW.TrodAll enc Try.prog W 0 (fun _ => true) true Try.f6.params.toList args.toList ds p := hA0
  rw [Try.params6] at hA hval
  obtain ⟨v0, vs0, d0, ds0, p0, q0, hargs, rfl, rfl, h0, r0⟩ := trodAll_cons hA
  obtain ⟨rfl, rfl, rfl⟩ := trodAll_nil r0
  obtain rfl : args = #[v0] := by cases args; simp_all
  obtain ⟨rfl, rfl⟩ := trodVars_none hV
  obtain ⟨a0, rfl, rfl, rfl, w0⟩ := open_string Try.underlying9 (hval 0 9 v0 rfl rfl) h0
  clear hA0 hval0
  simp only [List.append_nil] at hW'
  refine (lawD_any a0 W (by simpa [maxLen] using w0)).mono fun e W' ⟨he, hg⟩ => ?_
  subst he
  exact ⟨_, rfl, _, _, _, [], [], [], hW', (trodAll_cons_mk (shut_bool Try.underlying4 _) trodAll_mk0), (trodAll_cons_mk (shut_string Try.underlying9 w0) trodAll_mk0), rfl, hg.below.frame _, fun h => by cases h⟩

theorem proved : Rows.FnExactExpandHandshakesSaid :=
  OpenClaim.holds_of_wide 6 Try.f6 rfl rfl rfl rfl rfl rfl rfl ⟨rfl, rfl, rfl, rfl, rfl⟩ rfl rfl rfl rfl rfl (by kernel_rfl) Try.func6 (by kernel_rfl)
    (of_decide_eq_true (by kernel_rfl)) (by unfold Func.isWrapper; first | (rw [if_pos (by decide +kernel)]; kernel_rfl) | (rw [if_neg (by decide +kernel)]; exact ⟨rfl, rfl⟩))
    (fun os started H enc _ => lifted os started H enc)
end LawD
#print axioms LawD.proved
end Go.Proofs.Ytklggjbmkgdkpaa
