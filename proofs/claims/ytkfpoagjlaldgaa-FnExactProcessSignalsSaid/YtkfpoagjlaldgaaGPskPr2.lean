/- Contracts of the functions of the program and of the reference, each proved by a walk through its code. -/
import Derived.Test.YtkfpoagjlaldgaaGPskNames
set_option linter.all false
set_option maxRecDepth 20000
namespace Go.Proofs.Ytkfpoagjlaldgaa
open Go.RowKit

theorem Try.inf_part : AppInfo Try.prog 32 40 3 48 := appInfo Try.underlying32 (z := .agg #[.string ByteArray.empty, .int .u8 0, .slice none 0 0]) (by kernel_rfl) rfl (by omega)
theorem Try.inf_partS : AppInfo Try.prog 38 32 1 24 := appInfo Try.underlying38 (z := .slice none 0 0) (by kernel_rfl) rfl (by omega)

def PartOut (o : Option (Tr × Nat)) (t : Tr) (i' : Nat) (bad' : Bool) : Prop := match o with
  | none => bad' = true
  | some (t', j) => t = t' ∧ i' = j ∧ bad' = false
def RowOut (o : Option (List Tr × Nat)) (t : List Tr) (i' : Nat) (bad' : Bool) : Prop := match o with
  | none => bad' = true
  | some (t', j) => t = t' ∧ i' = j ∧ bad' = false
def PartPost (f : Nat) (s : ByteArray) (b i : Nat) (bad : Bool) (w : World) (e : Ending) (w' : World) : Prop :=
  ∃ c0 c1 c2 t i' bad', e = .returned (.agg #[c0, c1, c2]) ∧ tr.rep (fun k => w.heap.size ≤ k) w' [c0, c1, c2] t ∧ PR w' b s i' bad' ∧ Fr [b] w w' ∧ i ≤ i' ∧ i' ≤ s.size ∧ (i < s.size → i < i') ∧
    (bad = true → bad' = true) ∧ (bad = false → PartOut (parsePart (nx s) f i) t i' bad')
def RowPost (f : Nat) (s : ByteArray) (b i : Nat) (bad : Bool) (w : World) (e : Ending) (w' : World) : Prop :=
  ∃ v ts i' bad', e = .returned v ∧ SL (fun k => w.heap.size ≤ k) 40 tr w' v ts ∧ PR w' b s i' bad' ∧ Fr [b] w w' ∧ i ≤ i' ∧ i' ≤ s.size ∧ (i < s.size → i < i') ∧
    (bad = true → bad' = true) ∧ (bad = false → RowOut (parseRow (nx s) f i) ts i' bad')
def PartC (f : Nat) : Prop := ∀ (s : ByteArray) (b i : Nat) (bad : Bool) (w : World), PR w b s i bad → i ≤ s.size → s.size ≤ 1000 → 2 * (s.size - i) + 1 ≤ f →
  Calls Try.prog 37 #[.pointer (some ⟨b, 0, none⟩)] w (PartPost f s b i bad w)
def RowC (f : Nat) : Prop := ∀ (s : ByteArray) (b i : Nat) (bad : Bool) (w : World), PR w b s i bad → i ≤ s.size → s.size ≤ 1000 → 2 * (s.size - i) + 2 ≤ f →
  Calls Try.prog 29 #[.pointer (some ⟨b, 0, none⟩)] w (RowPost f s b i bad w)

/-- At the head of the row's loop. -/
def RowSt (f : Nat) (s : ByteArray) (i j : Nat) (bd : Bool) (ts : List Tr) : Prop :=
  (bd = true → parseRow (nx s) (f + 1) i = none) ∧
  (bd = false → ∃ f', 2 * (s.size - j) + 1 ≤ f' ∧ f' ≤ f ∧ parseRow (nx s) (f + 1) i = (parseTail (nx s) f' j).map (fun x => (ts ++ x.1, x.2)))

theorem RowSt.start {f : Nat} {s : ByteArray} {i j : Nat} {bd : Bool} {t : Tr} (hf : 2 * (s.size - i) + 2 ≤ f + 1) (hij : i ≤ j) (h : PartOut (parsePart (nx s) f i) t j bd) : RowSt f s i j bd [t] := by
  refine ⟨fun hb => ?_, fun hb => ?_⟩
  · cases hp : parsePart (nx s) f i with
    | none => simp [parseRow, hp]
    | some x => obtain ⟨t', j'⟩ := x; rw [hp] at h; exact absurd h.2.2 (by simp [hb])
  · cases hp : parsePart (nx s) f i with
    | none => rw [hp] at h; simp [PartOut] at h; simp [h] at hb
    | some x =>
      obtain ⟨t', j'⟩ := x
      rw [hp] at h
      obtain ⟨rfl, rfl, _⟩ := h
      refine ⟨f, by omega, Nat.le_refl _, ?_⟩
      simp only [parseRow, hp]
      cases parseTail (nx s) f j <;> simp

theorem RowSt.stop {f : Nat} {s : ByteArray} {i j : Nat} {bd : Bool} {ts : List Tr} (h : RowSt f s i j bd ts) (hx : bd = false → nx s j ≠ 59) : RowOut (parseRow (nx s) (f + 1) i) ts j bd := by
  cases bd with
  | true => rw [h.1 rfl]; rfl
  | false =>
    obtain ⟨f', h1, h2, h3⟩ := h.2 rfl
    obtain ⟨m, rfl⟩ : ∃ m, f' = m + 1 := ⟨f' - 1, by omega⟩
    rw [h3]
    simp [parseTail, hx rfl, RowOut]

theorem RowSt.next {f : Nat} {s : ByteArray} {i j : Nat} {ts : List Tr} (h : RowSt f s i j false ts) (hx : nx s j = 59) (hj : j < s.size) :
    ∃ f', 2 * (s.size - (j + 1)) + 1 ≤ f' ∧ f' ≤ f ∧ ∀ j' bd' t, j + 1 ≤ j' → PartOut (parsePart (nx s) f' (j + 1)) t j' bd' → RowSt f s i j' bd' (ts ++ [t]) := by
  obtain ⟨f', h1, h2, h3⟩ := h.2 rfl
  obtain ⟨m, rfl⟩ : ∃ m, f' = m + 1 := ⟨f' - 1, by omega⟩
  refine ⟨m, by omega, by omega, fun j' bd' t hj' ho => ⟨fun hb => ?_, fun hb => ?_⟩⟩
  · cases hp : parsePart (nx s) m (j + 1) with
    | none => rw [h3]; simp [parseTail, hx, hp]
    | some x => obtain ⟨t', k⟩ := x; rw [hp] at ho; exact absurd ho.2.2 (by simp [hb])
  · cases hp : parsePart (nx s) m (j + 1) with
    | none => rw [hp] at ho; simp [PartOut] at ho; simp [ho] at hb
    | some x =>
      obtain ⟨t', k⟩ := x
      rw [hp] at ho
      obtain ⟨rfl, rfl, _⟩ := ho
      refine ⟨m, by omega, by omega, ?_⟩
      rw [h3]
      simp only [parseTail, hx, if_pos, hp]
      cases parseTail (nx s) m j' <;> simp

theorem nx_lt {s : ByteArray} {j : Nat} (h : nx s j ≠ 0) : j < s.size := by
  rcases Nat.lt_or_ge j s.size with h' | h'
  · exact h'
  · exfalso; apply h
    unfold nx
    rw [Array.getD_eq_getD_getElem?, Array.getElem?_eq_none (by simpa using h')]; rfl

set_option maxHeartbeats 1000000 in
theorem row_of_part (f : Nat) (hP : ∀ f', f' ≤ f → PartC f') : RowC (f + 1) := by
  intro s b i bad w hp hi hs hf
  have HP := Lib.hid hP
  clear hP
  have hbw := hp.lt
  go_enter Try.func29, Try.ntmps29
  go_wp2_with (go_at_call 37; refine (HP.out f (Nat.le_refl _) s b i bad _ hp hi hs (by omega)).mono ?_; rintro e w1 ⟨c0, c1, c2, t, i1, bad1, rfl, hrep, hp1, hfr, h1, h2, h3, h4, h5⟩)
  have hO : Own (fun k => w.heap.size ≤ k) (fun k => w.heap.size ≤ k) 40 tr (w1.alloc (.cells #[c0, c1, c2] 40)) (.slice (some ⟨w1.heap.size, 0, none⟩) 1 1) [t] :=
    Own.single (heap_alloc_new w1 _) hfr.size (tr.mono (tr.frame (tr.bound hrep) ((Fr.refl [] w1).alloc _) (by simp)) (fun k hk => ⟨hk.1, by omega⟩))
  have hst : bad = false → RowSt f s i i1 bad1 [t] := fun hb => RowSt.start hf h1 (h5 hb)
  have HST := Lib.hid hst
  have H4 := Lib.hid h4
  clear hst h5 h4 hrep
  go_loopw [3] (fun v wr => ∃ j bd ts, Own (fun k => w.heap.size ≤ k) (fun k => w.heap.size ≤ k) 40 tr wr v ts ∧ PR wr b s j bd ∧ Fr [b] w wr ∧ i ≤ j ∧ j ≤ s.size ∧ (i < s.size → i < j) ∧ ts.length ≤ j + 1 ∧ (bad = true → bd = true) ∧ (bad = false → RowSt f s i j bd ts)) (fun _ wr => s.size - (intOf ((wr.cell? ⟨b, 1, none⟩).getD undef)).toNat)
  case atStart => exact ⟨i1, bad1, [t], hO, hp1.alloc _, hfr.alloc _, h1, h2, h3, by simp, H4.out, HST.out⟩
  case round =>
    obtain ⟨j, bd, ts, hO, hp, hfr, h1, h2, h3, h6, h4, h5⟩ := hrel
    have hc2 := hp.cell 2 rfl
    have H5 := Lib.hid h5
    have H4 := Lib.hid h4
    clear h5 h4
    cases bd with
    | true =>
      go_wp2
      go_ret
      exact ⟨_, ts, j, true, rfl, hO.slB, hp, hfr, h1, h2, h3, fun _ => rfl, fun hb => (H5.out hb).stop (by simp)⟩
    | false =>
      have hbad : bad = false := by
        cases bad with
        | false => rfl
        | true => exact (H4.out rfl).symm
      have HS := Lib.hid (H5.out hbad)
      have HB := Lib.hid hbad
      clear hbad
      by_cases hx : nx s j = 59
      · have hj : j < s.size := nx_lt (by rw [hx]; decide)
        obtain ⟨f', g1, g2, g3⟩ := HS.out.next hx hj
        have G3 := Lib.hid g3
        have HX := Lib.hid hx
        have hbx : bNx s j 59 = true := by simp [bNx, hx]
        clear g3 hx
        go_wp2_with (first
          | (go_at_call 38; refine (take_any b s j false 59 _ rfl _ hp h2 hs).mono ?_; rintro e w2 ⟨rfl, hp2, hf2⟩; rw [if_pos HX.out] at hp2)
          | (go_at_call 37; refine (HP.out f' g2 s b (j + 1) false _ hp2 (by omega) hs g1).mono ?_; rintro e w3 ⟨c0, c1, c2, t', j', bd', rfl, hrep, hp3, hf3, k1, k2, k3, k4, k5⟩)
          | (at_builtin; refine wpList_append_Own (P := Try.prog) (by rfl) (.tmp 16) (.tmp 19) 32 (by rfl) (T := tr) (l := ts) (y := t') (v := u3) (tb := w3.heap.size) (c := 1) (cs := [c0, c1, c2]) Try.inf_part (by rfl) ((hO.old (hf2.trans hf3) (by simpa using hbw)).old ((Fr.refl [] w3).alloc _) (by simp)) (by rfl) (heap_alloc_new w3 _) (hO.apart hf2.size (Nat.le_trans hfr.size hf2.size) hrep _) ?_ ?o3 ?o4 ?o5; intro p cap w4 hO4 hf4 hat))
        · have hOa := (hO.old (hf2.trans hf3) (by simpa using hbw)).old ((Fr.refl [] w3).alloc (.cells #[c0, c1, c2] 40)) (by simp)
          have hp4 : PR w4 b s j' bd' := hOa.blk (hp3.alloc _) hbw hf4
          have hfr4 : Fr [b] w w4 := hOa.fr (((hfr.trans hf2).trans hf3).alloc _) hf4
          have hj' : j < j' := by omega
          have hst4 := G3.out j' bd' t' k1 (k5 trivial)
          have HST4 := Lib.hid hst4
          clear hst4 k3 k4 k5 hat hOa
          go_roundw
          case rel => exact ⟨j', bd', ts ++ [t'], hO4, hp4, hfr4, by omega, by omega, fun _ => by omega, by simp; omega, fun h => by simp [HB.out] at h, fun _ => HST4.out⟩
          case measure => simp [intOf, hp4.cell 1 rfl, hp.cell 1 rfl]; omega
        case o3 => have := hfr.size; have := hf2.size; have := hf3.size; simp; omega
        case o4 => simp only [maxLen]; omega
        case o5 => omega
      · have HX := Lib.hid hx
        have hbx : bNx s j 59 = false := by simp [bNx, hx]
        clear hx
        go_wp2_with (go_at_call 38; refine (take_any b s j false 59 _ rfl _ hp h2 hs).mono ?_; rintro e w2 ⟨rfl, hp2, hf2⟩; rw [if_neg HX.out] at hp2)
        go_ret
        exact ⟨_, ts, j, false, rfl, (hO.old hf2 (by simpa using hbw)).slB, hp2, hfr.trans hf2, h1, h2, h3, H4.out, fun _ => HS.out.stop (fun _ => HX.out)⟩
end Go.Proofs.Ytkfpoagjlaldgaa

