/- Contracts of the functions of the program and of the reference, each proved by a walk through its code. -/
import Derived.Test.YtkfpoagjlaldgaaGPskLp2
import Derived.Deep.CutBlock
import Derived.Deep.LoopGhost
set_option linter.all false
set_option maxRecDepth 20000
namespace Go.Proofs.Ytkfpoagjlaldgaa
open Go.RowKit

def POut (o : Option (Tr × Nat)) (ns : List Nd) (deep most : Nat) (i' : Nat) (bad' : Bool) (ns' : List Nd) (most' : Nat) (idx : Int) : Prop := match o with
  | none => bad' = true
  | some (t, j) => bad' = false ∧ i' = j ∧ ns' = ns ++ lay ns.length t ∧ most' = max most (deep + dep t) ∧ idx = ((ns.length + (lay ns.length t).length - 1 : Nat) : Int)
def ROut (o : Option (List Tr × Nat)) (ns : List Nd) (deep most : Nat) (i' : Nat) (bad' : Bool) (ns' : List Nd) (most' : Nat) (idx : Int) : Prop := match o with
  | none => bad' = true
  | some (ts, j) => bad' = false ∧ i' = j ∧ ns' = ns ++ layRow ns.length ts ∧ most' = max most (deep + depRow ts) ∧ idx = ((ns.length + (layRow ns.length ts).length - 1 : Nat) : Int)

def LPPost (f : Nat) (s : ByteArray) (b : Nat) (K : Nat → Prop) (i : Nat) (ns : List Nd) (deep most : Nat) (w : World) (e : Ending) (w' : World) : Prop :=
  ∃ idx i' bad' ns' most', e = .returned (.int .i64 idx) ∧ I64 idx ∧ LP w' b K s i' bad' ns' deep most' ∧ FrK b K w w' ∧ i < i' ∧ i' ≤ s.size + 1 + 3 * f ∧ ns'.length + 1 ≤ 6 * i' ∧ deep ≤ most' ∧
    (bad' = false → i' ≤ s.size) ∧ POut (parsePart (nx s) f i) ns deep most i' bad' ns' most' idx
def LRPost (f : Nat) (s : ByteArray) (b : Nat) (K : Nat → Prop) (i : Nat) (ns : List Nd) (deep most : Nat) (w : World) (e : Ending) (w' : World) : Prop :=
  ∃ idx i' bad' ns' most', e = .returned (.int .i64 idx) ∧ I64 idx ∧ LP w' b K s i' bad' ns' deep most' ∧ FrK b K w w' ∧ i < i' ∧ i' ≤ s.size + 1 + 3 * f ∧ ns'.length ≤ 6 * i' ∧ deep ≤ most' ∧
    (bad' = false → i' ≤ s.size) ∧ ROut (parseRow (nx s) f i) ns deep most i' bad' ns' most' idx
def LPC (f : Nat) : Prop := ∀ (s : ByteArray) (b : Nat) (K : Nat → Prop) (i : Nat) (ns : List Nd) (deep most : Nat) (w : World), LP w b K s i false ns deep most → (∀ k, w.heap.size ≤ k → K k) → ¬ K b → i ≤ s.size → s.size ≤ 1000 → f ≤ 3000 →
  ns.length ≤ 6 * i → deep ≤ most → deep ≤ i → 2 * (s.size - i) + 1 ≤ f → Calls Try.prog 40 #[.pointer (some ⟨b, 0, none⟩)] w (LPPost f s b K i ns deep most w)
def LRC (f : Nat) : Prop := ∀ (s : ByteArray) (b : Nat) (K : Nat → Prop) (i : Nat) (ns : List Nd) (deep most : Nat) (w : World), LP w b K s i false ns deep most → (∀ k, w.heap.size ≤ k → K k) → ¬ K b → i ≤ s.size → s.size ≤ 1000 → f ≤ 3000 →
  ns.length ≤ 6 * i → deep ≤ most → deep ≤ i → 2 * (s.size - i) + 2 ≤ f → Calls Try.prog 34 #[.pointer (some ⟨b, 0, none⟩)] w (LRPost f s b K i ns deep most w)

/-- At the head of the row's loop, nothing bad: ts has been read, a part comes. -/
def LHead (f : Nat) (s : ByteArray) (i j : Nat) (ns ns' : List Nd) (deep most most' : Nat) (kids : List Int) : Prop :=
  ∃ f' ts, 2 * (s.size - j) + 1 ≤ f' ∧ f' ≤ f ∧ ns' = ns ++ (layParts ns.length ts).1 ∧ kids = (layParts ns.length ts).2 ∧ most' = max most (deep + depRow ts) ∧
    parseRow (nx s) (f + 1) i = match parsePart (nx s) f' j with
      | none => none
      | some (t, k) => match parseTail (nx s) f' k with
        | none => none
        | some (ts2, k2) => some (ts ++ t :: ts2, k2)
/-- Behind the loop. -/
def LExit (f : Nat) (s : ByteArray) (i j : Nat) (bd : Bool) (ns ns' : List Nd) (deep most most' : Nat) (kids : List Int) : Prop :=
  (bd = true → parseRow (nx s) (f + 1) i = none) ∧
  (bd = false → ∃ ts, parseRow (nx s) (f + 1) i = some (ts, j) ∧ ns' = ns ++ (layParts ns.length ts).1 ∧ kids = (layParts ns.length ts).2 ∧ most' = max most (deep + depRow ts))

theorem depRow_append (ts : List Tr) (t : Tr) : depRow (ts ++ [t]) = max (depRow ts) (dep t) := by
  induction ts with
  | nil => simp [depRow]
  | cons a ts ih => simp only [List.cons_append, depRow, ih]; omega

/-- What a part does at the loop's head: the row ends, or another part comes. -/
theorem LHead.part {f : Nat} {s : ByteArray} {i j : Nat} {ns ns' : List Nd} {deep most most' : Nat} {kids : List Int} (h : LHead f s i j ns ns' deep most most' kids) :
    ∃ f', 2 * (s.size - j) + 1 ≤ f' ∧ f' ≤ f ∧ ∀ j' bd ns'' most'' idx, j < j' → POut (parsePart (nx s) f' j) ns' deep most' j' bd ns'' most'' idx →
      (bd = true → parseRow (nx s) (f + 1) i = none) ∧ (bd = false → nx s j' ≠ 59 → LExit f s i j' false ns ns'' deep most most'' (kids ++ [idx])) ∧
      (bd = false → nx s j' = 59 → j' < s.size → LHead f s i (j' + 1) ns ns'' deep most most'' (kids ++ [idx])) := by
  obtain ⟨f', ts, h1, h2, h3, h4, h5, h6⟩ := h
  refine ⟨f', h1, h2, fun j' bd ns'' most'' idx hj ho => ?_⟩
  cases hp : parsePart (nx s) f' j with
  | none =>
    rw [hp] at h6 ho
    refine ⟨fun _ => by rw [h6], fun hb => ?_, fun hb => ?_⟩ <;> (simp only [POut] at ho; rw [hb] at ho; cases ho)
  | some x =>
    obtain ⟨t, k⟩ := x
    rw [hp] at h6 ho
    obtain ⟨hb, rfl, hn, hm, hi⟩ := ho
    obtain ⟨m, rfl⟩ : ∃ m, f' = m + 1 := ⟨f' - 1, by omega⟩
    have e1 : ns'' = ns ++ (layParts ns.length (ts ++ [t])).1 := by rw [hn, h3, layParts_append]; simp
    have e2 : kids ++ [idx] = (layParts ns.length (ts ++ [t])).2 := by rw [hi, h4, h3, layParts_append]; simp
    have e3 : most'' = max most (deep + depRow (ts ++ [t])) := by rw [hm, h5, depRow_append]; omega
    refine ⟨(fun hb' => by rw [hb] at hb'; cases hb'), (fun _ hx => ⟨(fun h => by cases h), (fun _ => ⟨ts ++ [t], ?_, e1, e2, e3⟩)⟩), (fun _ hx hlt => ⟨m, ts ++ [t], by omega, by omega, e1, e2, e3, ?_⟩)⟩
    · rw [h6]; simp [parseTail, hx]
    · rw [h6]
      simp only [parseTail, hx, if_pos]
      cases parsePart (nx s) m (j' + 1) with
      | none => rfl
      | some y =>
        obtain ⟨t2, k2⟩ := y
        simp only
        cases parseTail (nx s) m k2 with
        | none => rfl
        | some z => simp

set_option maxHeartbeats 2000000 in
set_option maxRecDepth 100000 in
theorem lrow_of_part (f : Nat) (hP : ∀ f', f' ≤ f → LPC f') : LRC (f + 1) := by
  intro s b K i ns deep most w hp hK hKb hi hs hfs hns hdm hdi hf
  have HP := Lib.hid hP
  have hbw := hp.lt
  have HKK := Lib.hid hK
  have HKb := Lib.hid hKb
  clear hP hK hKb
  have hst : LHead f s i i ns ns deep most most [] := by
    refine ⟨f, [], by omega, Nat.le_refl _, by simp [layParts], by simp [layParts], by simp [depRow]; omega, ?_⟩
    simp only [parseRow]
    cases parsePart (nx s) f i with
    | none => rfl
    | some y => obtain ⟨t2, k2⟩ := y; cases h : parseTail (nx s) f k2 <;> simp [h]
  have HST := Lib.hid hst
  clear hst
  go_enter Try.func34, Try.ntmps34
  go_upto_block 0 with fail
  go_cut [3] (fun v wx => ∃ j bd ns' most' kids, LP wx b K s j bd ns' deep most' ∧ Own K (fun _ => False) 3 Ty.int wx v kids ∧ FrK b K w wx ∧ i < j ∧ j ≤ s.size + 2 + 3 * f ∧ ns'.length + 1 ≤ 6 * j ∧ deep ≤ most' ∧ kids.length ≤ j ∧
    (bd = false → j ≤ s.size) ∧ LExit f s i j bd ns ns' deep most most' kids)
  case first =>
    go_wp2
    go_loopg [3] (s.size + 2 - i) (fun m v wr => ∃ j bd ns' most' kids, m = (if bd then 0 else s.size + 2 - j) ∧ LP wr b (fun k => K k ∧ v.ownBlock ≠ some k) s j bd ns' deep most' ∧ Own K (fun _ => False) 3 Ty.int wr v kids ∧ FrK b K w wr ∧
      i ≤ j ∧ (bd = true → i < j) ∧ j ≤ s.size + 2 + 3 * f ∧ (bd = true → ns'.length + 1 ≤ 6 * j) ∧ ns'.length ≤ 6 * j ∧ deep ≤ most' ∧ deep ≤ j ∧ kids.length ≤ j ∧ (bd = false → j ≤ s.size) ∧ (bd = true → parseRow (nx s) (f + 1) i = none) ∧ (bd = false → LHead f s i j ns ns' deep most most' kids))
    case atStart => exact ⟨i, false, ns, most, [], rfl, hp.mono (fun k hk => ⟨hk, by simp [Value.ownBlock]⟩), Own.nil _ _ _ _ _, FrK.refl _ _ _, Nat.le_refl _, (fun h => by cases h), by omega, (fun h => by cases h), hns, hdm, hdi, by simp, fun _ => hi, (fun h => by cases h), fun _ => HST.out⟩
    case round =>
      obtain ⟨j, bd, ns', most', kids, rfl, hp, hO, hfr, h1, h1', h2, h3', h3, h4, h5, h6, h7, h8, h9⟩ := hrel
      obtain ⟨a0, cap0, rfl⟩ := hO.form
      obtain ⟨nv, hb, hN⟩ := hp
      have hc2 := hb.cell 2 rfl
      have hp : LP wr b (fun k => K k ∧ (Value.slice a0 kids.length cap0).ownBlock ≠ some k) s j bd ns' deep most' := ⟨nv, hb, hN⟩
      have H8 := Lib.hid h8
      have H9 := Lib.hid h9
      clear h8 h9 hb hN
      cases bd with
      | true =>
        go_wp2_with fail
        go_meet
        exact ⟨j, true, ns', most', kids, hp.mono (fun k hk => hk.1), hO, hfr, h1' (by trivial), h2, h3' (by trivial), h4, h6, h7, ⟨fun _ => H8.out (by trivial), (fun h => by cases h)⟩⟩
      | false =>
        obtain ⟨f', g1, g2, g3⟩ := (H9.out (by trivial)).part
        have G3 := Lib.hid g3
        clear g3
        go_wp2_with (first
          | (go_at_call 40; refine (HP.out f' g2 s b _ j ns' deep most' _ hp (fun k hk => ⟨HKK.out k (by have := hfr.size; omega), fun hv => by have := (hO.lt hv).2; omega⟩) (fun h => HKb.out h.1) (h7 (by trivial)) hs (by omega) h3 h4 h5 g1).mono ?_; rintro e w1 ⟨idx, j', bd', ns'', most'', rfl, hI, hp1, hf1, k1, k2, k3, k4, k5, k6⟩)
          | (at_builtin; refine wpList_append_Own (P := Try.prog) (by rfl) (.tmp 9) (.tmp 12) 66 (by rfl) (T := Ty.int) (l := kids) (y := idx) (v := .slice a0 kids.length cap0) (tb := w1.heap.size) (c := 1) (cs := [.int .i64 idx]) Try.inf_int (by rfl) ((hO.frK hf1 (fun g hg => ⟨fun hb => HKb.out (hb ▸ (hO.lt hg).1), fun hh => hh.2 hg⟩)).frame ((Fr.refl [] w1).alloc _) (by simp) (by simp)) (by rfl) (heap_alloc_new w1 _) ⟨rfl, hI⟩ ?_ ?o3 ?o4 ?o5; intro p cap w2 hO2 hf2 hat))
        case o3 => exact HKK.out _ (by have := hfr.size; have := hf1.size; simp; omega)
        case o4 => simp only [maxLen]; omega
        case o5 => omega
        · have hgb : ∀ g, (Value.slice a0 kids.length cap0).ownBlock = some g → K g ∧ g < wr.heap.size := fun g hg => hO.lt hg
          have hz1 := hf1.size
          have hp2 : LP w2 b (fun k => K k ∧ (Value.slice p (kids.length + 1) cap).ownBlock ≠ some k) s j' bd' ns'' deep most'' := by
            have hq := (hp1.bound.frame ((Fr.refl [] w1).alloc (.cells #[.int .i64 idx] 3)) (by simp) (by simp)).frame hf2 (fun hm => HKb.out (hgb b (by simpa using hm)).1) (fun k hk hh => hh.1.2 (by simpa using hk))
            refine hq.mono (fun k hk => ⟨hk.1.1, fun hv => ?_⟩)
            rcases hat with hat | hat
            · exact hk.1.2 (hat ▸ hv)
            · rw [hat] at hv; simp at hv; have := hk.2; omega
          have hfr2 : FrK b K w w2 := ((hfr.trans (hf1.mono (fun k hk => hk.1))).fr ((Fr.refl [] w1).alloc (.cells #[.int .i64 idx] 3)) (by simp)).fr hf2 (fun k hk => .inr (hgb k (by simpa using hk)).1)
          have G4 := Lib.hid (G3.out j' bd' ns'' most'' idx k1 k6)
          obtain ⟨nv2, hb2, hN2⟩ := hp2
          have hp2 : LP w2 b (fun k => K k ∧ (Value.slice p (kids.length + 1) cap).ownBlock ≠ some k) s j' bd' ns'' deep most'' := ⟨nv2, hb2, hN2⟩
          have hw1 := hb2.cell 1 rfl
          have hw1f := hb2.free 1
          clear hN2 hat hgb k6
          by_cases hx : nx s j' = 59
          · obtain ⟨x1, x2⟩ := nx_eq (k := 59) rfl hx
            have hjlt : j' < s.size := nx_lt2 (by rw [hx]; decide)
            have HX := Lib.hid hx
            clear hx
            have hst : (if bd' = true then 0 else s.size + 2 - (j' + 1)) < s.size + 2 - j := by split <;> omega
            have hb3 : LP (w2.setCell ⟨b, 1, none⟩ (.int .i64 ((j' + 1 : Nat) : Int))) b (fun k => K k ∧ (Value.slice p (kids.length + 1) cap).ownBlock ≠ some k) s (j' + 1) bd' ns'' deep most'' := by
              obtain ⟨nv3, hb3, hN3⟩ := hp2
              exact ⟨nv3, hb3.set 1 _, hN3.frame ((Fr.refl [b] w2).setCell (by simp) _) (fun g hg hm => HKb.out (by simp at hm; subst hm; exact (hN3.lt hg).1.1)) (fun k hk hh => HKb.out (by simp at hk; subst hk; exact hh.1.1))⟩
            have hO3 : Own K (fun _ => False) 3 Ty.int (w2.setCell ⟨b, 1, none⟩ (.int .i64 ((j' + 1 : Nat) : Int))) (.slice p (kids.length + 1) cap) (kids ++ [idx]) :=
              hO2.frame ((Fr.refl [b] w2).setCell (by simp) _) (fun g hg hm => HKb.out (by simp at hm; subst hm; exact (hO2.lt hg).1)) (fun k hk hh => hh.1)
            have hfr3 : FrK b K w (w2.setCell ⟨b, 1, none⟩ (.int .i64 ((j' + 1 : Nat) : Int))) := hfr2.fr ((Fr.refl [b] w2).setCell (by simp) _) (by simp)
            refine (peek_any b s j' bd' nv2 deep most'' _ hb2 (by omega) hs).mono ?_
            rintro e w3 ⟨rfl, n, rfl⟩
            go_wp2_with fail
            go_roundg (if bd' = true then 0 else s.size + 2 - (j' + 1))
            case rel => exact ⟨j' + 1, bd', ns'', most'', kids ++ [idx], rfl, hb3.frame ((Fr.refl [] _).drewN n) (by simp) (by simp), hO3.frame ((Fr.refl [] _).drewN n) (by simp) (by simp), hfr3.fr ((Fr.refl [] _).drewN n) (by simp), by omega, fun _ => by omega, by omega, fun _ => by omega, by omega, k4, by omega, by simp; omega, fun _ => by omega, G4.out.1, fun hbd => G4.out.2.2 hbd HX.out hjlt⟩
            case measure => simpa using hst
          · obtain ⟨x1, x2⟩ := nx_ne (k := 59) rfl hx
            have HX := Lib.hid hx
            clear hx
            refine (peek_any b s j' bd' nv2 deep most'' _ hb2 (by omega) hs).mono ?_
            rintro e w3 ⟨rfl, n, rfl⟩
            go_wp2_with fail
            go_meet
            refine ⟨j', bd', ns'', most'', kids ++ [idx], (hp2.mono (fun k hk => hk.1)).frame ((Fr.refl [] _).drewN n) (by simp) (by simp), hO2.frame ((Fr.refl [] _).drewN n) (by simp) (by simp), hfr2.fr ((Fr.refl [] _).drewN n) (by simp), by omega, by omega, k3, k4, by simp; omega, k5, ⟨G4.out.1, fun hbd => ?_⟩⟩
            subst hbd
            exact (G4.out.2.1 rfl HX.out).2 rfl
  case rest =>
    obtain ⟨j, bd, ns', most', kids, hp, hO, hfr, h1, h2, h3, h4, h5, h6, h7⟩ := hcut
    obtain ⟨a0, cap0, rfl⟩ := hO.form
    have H7 := Lib.hid h7
    clear h7
    have hsl := (hO.sl.mono (fun k hk => hk.elim id False.elim) : SL K 3 Ty.int _ _ kids)
    go_wp2_with (go_at_call 41; refine (node_any b K s j bd ns' deep most' ⟨bs [], true, kids⟩ (.slice a0 kids.length cap0) _ hp (fun k hk => HKK.out k (by have := hfr.size; omega)) HKb.out ⟨_, rfl, Nat.zero_le _, hsl⟩ (by omega)).mono ?_; rintro e w2 ⟨rfl, hp2, L, hf2, hL⟩)
    go_ret
    refine ⟨(ns'.length : Int), j, bd, _, most', rfl, by unfold I64; omega, hp2, hfr.trans ⟨L, hf2, hL⟩, h1, by omega, by simp; omega, h4, h6, ?_⟩
    cases bd with
    | true => rw [H7.out.1 rfl]; rfl
    | false =>
      obtain ⟨ts, e1, e2, e3, e4⟩ := H7.out.2 rfl
      rw [e1]
      refine ⟨rfl, rfl, ?_, e4, ?_⟩
      · rw [e2, e3]; simp [layRow]
      · rw [e2]; simp [layRow]
end Go.Proofs.Ytkfpoagjlaldgaa

