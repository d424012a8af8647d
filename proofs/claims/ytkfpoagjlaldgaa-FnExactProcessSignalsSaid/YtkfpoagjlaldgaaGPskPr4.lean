/- Contracts of the functions of the program and of the reference, each proved by a walk through its code. -/
import Derived.Test.YtkfpoagjlaldgaaGPskPr3
set_option linter.all false
set_option maxRecDepth 20000
namespace Go.Proofs.Ytkfpoagjlaldgaa
open Go.RowKit

def finPar (s : ByteArray) (rs : List (List Tr)) (k : Nat) : Option (Tr × Nat) :=
  if rs.length < 2 then none else if nx s k = 41 then some (.par rs, k + 1) else none
def MoreSt (f : Nat) (s : ByteArray) (i j : Nat) (bd : Bool) (rs : List (List Tr)) : Prop :=
  (bd = true → parsePart (nx s) (f + 1) i = none) ∧
  (bd = false → ∃ f', 2 * (s.size - j) + 1 ≤ f' ∧ f' ≤ f ∧ parsePart (nx s) (f + 1) i = match parseMore (nx s) f' j with | none => none | some (more, k) => finPar s (rs ++ more) k)

theorem MoreSt.start {f : Nat} {s : ByteArray} {i j : Nat} {bd : Bool} {r : List Tr} (hx : nx s i = 40) (hf : 2 * (s.size - j) + 1 ≤ f) (h : RowOut (parseRow (nx s) f (i + 1)) r j bd) : MoreSt f s i j bd [r] := by
  refine ⟨fun hb => ?_, fun hb => ?_⟩
  · cases hp : parseRow (nx s) f (i + 1) with
    | none => simp [parsePart, hx, hp]
    | some x => obtain ⟨t', j'⟩ := x; rw [hp] at h; exact absurd h.2.2 (by simp [hb])
  · cases hp : parseRow (nx s) f (i + 1) with
    | none => rw [hp] at h; simp [RowOut] at h; simp [h] at hb
    | some x =>
      obtain ⟨t', j'⟩ := x
      rw [hp] at h
      obtain ⟨rfl, rfl, _⟩ := h
      refine ⟨f, by omega, Nat.le_refl _, ?_⟩
      simp only [parsePart, hx, if_pos, hp]
      cases parseMore (nx s) f j with
      | none => rfl
      | some y =>
        obtain ⟨rs, k⟩ := y
        cases rs with
        | nil => simp [finPar]
        | cons a l => simp [finPar]; intro h; omega

theorem MoreSt.next {f : Nat} {s : ByteArray} {i j : Nat} {bd : Bool} {rs : List (List Tr)} (h : MoreSt f s i j bd rs) (hx : nx s j = 124) (hj : j < s.size) :
    (bd = true → ∀ j' r, MoreSt f s i j' true (rs ++ [r])) ∧
    (bd = false → ∃ f', 2 * (s.size - (j + 1)) + 2 ≤ f' ∧ f' ≤ f ∧ ∀ j' bd' r, j + 1 ≤ j' → RowOut (parseRow (nx s) f' (j + 1)) r j' bd' → MoreSt f s i j' bd' (rs ++ [r])) := by
  refine ⟨fun hb j' r => ⟨fun _ => h.1 hb, fun h' => by cases h'⟩, fun hb => ?_⟩
  obtain ⟨f', h1, h2, h3⟩ := h.2 hb
  obtain ⟨m, rfl⟩ : ∃ m, f' = m + 1 := ⟨f' - 1, by omega⟩
  refine ⟨m, by omega, by omega, fun j' bd' r hj' ho => ⟨fun hb' => ?_, fun hb' => ?_⟩⟩
  · cases hp : parseRow (nx s) m (j + 1) with
    | none => rw [h3]; simp [parseMore, hx, hp]
    | some x => obtain ⟨t', k⟩ := x; rw [hp] at ho; exact absurd ho.2.2 (by simp [hb'])
  · cases hp : parseRow (nx s) m (j + 1) with
    | none => rw [hp] at ho; simp [RowOut] at ho; simp [ho] at hb'
    | some x =>
      obtain ⟨t', k⟩ := x
      rw [hp] at ho
      obtain ⟨rfl, rfl, _⟩ := ho
      refine ⟨m, by omega, by omega, ?_⟩
      rw [h3]
      simp only [parseMore, hx, if_pos, hp]
      cases parseMore (nx s) m j' <;> simp

theorem MoreSt.stop {f : Nat} {s : ByteArray} {i j : Nat} {rs : List (List Tr)} (h : MoreSt f s i j false rs) (hx : nx s j ≠ 124) : parsePart (nx s) (f + 1) i = finPar s rs j := by
  obtain ⟨f', h1, h2, h3⟩ := h.2 rfl
  obtain ⟨m, rfl⟩ : ∃ m, f' = m + 1 := ⟨f' - 1, by omega⟩
  rw [h3]
  simp [parseMore, hx]

abbrev rowT : Ty (List Tr) := Ty.slice 40 tr
theorem row_rep {K : Nat → Prop} {w : World} {a : Option Addr} {n cap : Nat} {ts : List Tr} (h : SL K 40 tr w (.slice a n cap) ts) : rowT.rep K w [.slice a n cap] ts := ⟨_, rfl, h⟩

/-- The end of rows in parallel. -/
theorem par_end {f : Nat} {s : ByteArray} {b i q : Nat} {bad bad' : Bool} {rs : List (List Tr)} {w wc : World} {v : Value} {a : Act} (hp : PR wc b s q bad') (hfr : Fr [b] w wc) (hbR : b < w.heap.size) (hO : Own (fun k => w.heap.size + 1 ≤ k) (fun k => w.heap.size + 1 ≤ k) 32 rowT wc v rs)
    (hR : Blk wc w.heap.size 40 [.string ByteArray.empty, .int .u8 0, .slice none 0 0]) (h1 : i ≤ q) (h2 : q ≤ s.size) (h3 : i < s.size → i < q) (h4 : bad = true → bad' = true) (h5 : bad = false → PartOut (parsePart (nx s) (f + 1) i) (.par rs) q bad') (n : Nat)
    (hd : a.defers = []) (ht : a.tmps.getD 2 undef = .pointer (some ⟨w.heap.size, 0, none⟩)) :
    bodyPost Try.prog Try.f37 (PartPost (f + 1) s b i bad w) .ret a ((((wc.setCell ⟨w.heap.size, 0, none⟩ (.string ByteArray.empty)).setCell ⟨w.heap.size, 1, none⟩ (.int .u8 0)).setCell ⟨w.heap.size, 2, none⟩ v).drewN n) := by
  have hbR' : b ≠ w.heap.size := by omega
  have hB := ((((hR.set 0 (.string ByteArray.empty)).set 1 (.int .u8 0)).set 2 v).drewN n)
  have hS := hO.slB
  have hF : Fr [w.heap.size] wc ((((wc.setCell ⟨w.heap.size, 0, none⟩ (.string ByteArray.empty)).setCell ⟨w.heap.size, 1, none⟩ (.int .u8 0)).setCell ⟨w.heap.size, 2, none⟩ v).drewN n) :=
    ((((Fr.refl _ wc).setCell (.inl (by simp)) _).setCell (.inl (by simp)) _).setCell (.inl (by simp)) _).drewN n
  refine body_cell (fn := Try.f37) rfl ht hB Try.agg_part hd ?_
  refine ⟨_, _, _, .par rs, q, bad', rfl, tr_par.2 ⟨v, rfl, ((hS.frame hF (by simp)).mono (fun k hk => by omega))⟩, ?_, ?_, h1, h2, h3, h4, h5⟩
  · exact (((hp.other hbR' _).other hbR' _).other hbR' _).drewN n
  · exact hfr.trans_new hF (by simp)

set_option maxHeartbeats 2000000 in
set_option maxRecDepth 100000 in
theorem part_par (f : Nat) (hP : ∀ f', f' ≤ f → RowC f') (s : ByteArray) (b i : Nat) (bad : Bool) (w : World) (hp : PR w b s i bad) (hi : i ≤ s.size) (hs : s.size ≤ 1000) (hx : nx s i = 40) (hf : 2 * (s.size - i) + 1 ≤ f + 1) :
    Calls Try.prog 37 #[.pointer (some ⟨b, 0, none⟩)] w (PartPost (f + 1) s b i bad w) := by
  have hbw := hp.lt
  have hi1 : i < s.size := nx_lt (by rw [hx]; decide)
  have HP := Lib.hid hP
  have HX := Lib.hid hx
  have hbx : bNx s i 40 = true := by simp [bNx, hx]
  clear hx hP
  go_enter Try.func37, Try.ntmps37
  go_upto_block 0 with (first
    | (go_at_call 38; refine (take_any b s i bad 40 _ rfl _ (hp.alloc _) hi hs).mono ?_; rintro e w2 ⟨rfl, hp2, hf2⟩; rw [if_pos HX.out] at hp2)
    | (go_at_call 29; refine (HP.out f (Nat.le_refl _) s b (i + 1) bad _ hp2 (by omega) hs (by omega)).mono ?_; rintro e w3 ⟨v, ts, j, bd, rfl, hsl, hp3, hf3, k1, k2, k3, k4, k5⟩; obtain ⟨a0, cap0, rfl, _, _, hsl⟩ := hsl.form))
  have hR : Blk w3 w.heap.size 40 [.string ByteArray.empty, .int .u8 0, .slice none 0 0] := ((Blk.new w 40 [.string ByteArray.empty, .int .u8 0, .slice none 0 0]).fr hf2 (by simp; omega)).fr hf3 (by simp; omega)
  have hfr3 : Fr [b] w w3 := (((Fr.refl _ w).alloc _).trans hf2).trans hf3
  have hz2 := hf2.size
  have hz3 := hf3.size
  simp at hz2
  have hO : Own (fun k => w.heap.size + 1 ≤ k) (fun k => w.heap.size + 1 ≤ k) 32 rowT (w3.alloc (.cells #[.slice a0 ts.length cap0] 32)) (.slice (some ⟨w3.heap.size, 0, none⟩) 1 1) [ts] :=
    Own.single (heap_alloc_new w3 _) (by omega) (rowT.mono (rowT.frame (rowT.bound (row_rep hsl)) ((Fr.refl [] w3).alloc _) (by simp)) (fun k hk => ⟨by omega, by omega⟩))
  have hst : bad = false → MoreSt f s i j bd [ts] := fun hb => MoreSt.start HX.out (by omega) (k5 hb)
  have HST := Lib.hid hst
  have K4 := Lib.hid k4
  clear hst k5 k4 hsl
  go_cut [3] (fun v wx => ∃ j bd rs, Own (fun k => w.heap.size + 1 ≤ k) (fun k => w.heap.size + 1 ≤ k) 32 rowT wx v rs ∧ PR wx b s j bd ∧ Fr [b] w wx ∧ Blk wx w.heap.size 40 [.string ByteArray.empty, .int .u8 0, .slice none 0 0] ∧
      i < j ∧ j ≤ s.size ∧ rs.length ≤ j ∧ (bad = true → bd = true) ∧ (bad = false → MoreSt f s i j bd rs) ∧ nx s j ≠ 124)
  case first =>
    go_wp2
    go_loopg [3] (s.size - j) (fun m v wr => ∃ j bd rs, m = s.size - j ∧ Own (fun k => w.heap.size + 1 ≤ k) (fun k => w.heap.size + 1 ≤ k) 32 rowT wr v rs ∧ PR wr b s j bd ∧ Fr [b] w wr ∧ Blk wr w.heap.size 40 [.string ByteArray.empty, .int .u8 0, .slice none 0 0] ∧
      i < j ∧ j ≤ s.size ∧ rs.length ≤ j ∧ (bad = true → bd = true) ∧ (bad = false → MoreSt f s i j bd rs))
    case atStart => exact ⟨j, bd, [ts], rfl, hO, hp3.alloc _, hfr3.alloc _, hR.alloc _, by omega, k2, by simp; omega, K4.out, HST.out⟩
    case round =>
      obtain ⟨j, bd, rs, rfl, hO, hp, hfr, hR, h1, h2, h6, h4, h5⟩ := hrel
      have H5 := Lib.hid h5
      have H4 := Lib.hid h4
      clear h5 h4
      obtain ⟨a1, cap1, rfl⟩ := hO.form
      by_cases hx : nx s j = 124
      · have hj : j < s.size := nx_lt (by rw [hx]; decide)
        have hE : ∃ f', 2 * (s.size - (j + 1)) + 2 ≤ f' ∧ f' ≤ f ∧ (bad = false → ∀ j' bd' r, j + 1 ≤ j' → (bd = true → bd' = true) → (bd = false → RowOut (parseRow (nx s) f' (j + 1)) r j' bd') → MoreSt f s i j' bd' (rs ++ [r])) := by
          by_cases hb : bad = false
          · obtain ⟨n1, n2⟩ := (H5.out hb).next hx hj
            cases bd with
            | true => exact ⟨f, by omega, Nat.le_refl _, fun _ j' bd' r _ hbd _ => by rw [hbd rfl]; exact n1 rfl j' r⟩
            | false =>
              obtain ⟨f', q1, q2, q3⟩ := n2 rfl
              exact ⟨f', q1, q2, fun _ j' bd' r hj' _ ho => q3 j' bd' r hj' (ho rfl)⟩
          · exact ⟨f, by omega, Nat.le_refl _, fun hb' => absurd hb' hb⟩
        obtain ⟨f', q1, q2, q3⟩ := hE
        have Q3 := Lib.hid q3
        have HX := Lib.hid hx
        have hbx : bNx s j 124 = true := by simp [bNx, hx]
        clear q3 hx
        go_wp2_with (first
          | (go_at_call 38; refine (take_any b s j bd 124 _ rfl _ hp h2 hs).mono ?_; rintro e w4 ⟨rfl, hp4, hf4⟩; rw [if_pos HX.out] at hp4)
          | (go_at_call 29; refine (HP.out f' q2 s b (j + 1) bd _ hp4 (by omega) hs q1).mono ?_; rintro e w5 ⟨v, r, j', bd', rfl, hsl, hp5, hf5, k1, k2, k3, k4, k5⟩; obtain ⟨a2, cap2, rfl, _, _, hsl⟩ := hsl.form)
          | (at_builtin; refine wpList_append_Own (P := Try.prog) (by rfl) (.tmp 15) (.tmp 18) 38 (by rfl) (T := rowT) (l := rs) (y := r) (v := .slice a1 rs.length cap1) (tb := w5.heap.size) (c := 1) (cs := [.slice a2 r.length cap2]) Try.inf_partS (by rfl) ((hO.old (hf4.trans hf5) (by simp; omega)).old ((Fr.refl [] w5).alloc _) (by simp)) (by rfl) (heap_alloc_new w5 _) (hO.apart hf4.size (by have := hfr.size; have := hf4.size; have := hR.lt; omega) (row_rep hsl) _) ?_ ?o3 ?o4 ?o5; intro p cap w6 hO6 hf6 hat))
        · have hOa := (hO.old (hf4.trans hf5) (by simp; omega)).old ((Fr.refl [] w5).alloc (.cells #[.slice a2 r.length cap2] 32)) (by simp)
          have hp6 : PR w6 b s j' bd' := hOa.blk (hp5.alloc _) (by omega) hf6
          have hR6 : Blk w6 w.heap.size 40 [.string ByteArray.empty, .int .u8 0, .slice none 0 0] := hOa.blk (((hR.fr hf4 (by simp; omega)).fr hf5 (by simp; omega)).alloc _) (by omega) hf6
          have hfr6 : Fr [b] w w6 := (((hfr.trans hf4).trans hf5).alloc _).trans_new hf6 (fun k hk => .inr (by have := (hOa.lt (g := k) (by simpa using hk)).1; omega))
          have hst6 : bad = false → MoreSt f s i j' bd' (rs ++ [r]) := fun hb => Q3.out hb j' bd' r k1 k4 k5
          have hb6 : bad = true → bd' = true := fun hb => k4 (H4.out hb)
          have HST6 := Lib.hid hst6
          have HB6 := Lib.hid hb6
          clear hst6 hb6 k3 k4 k5 hat hOa hsl
          go_roundg (s.size - j')
          case rel => exact ⟨j', bd', rs ++ [r], rfl, hO6, hp6, hfr6, hR6, by omega, by omega, by simp; omega, HB6.out, HST6.out⟩
          case measure => omega
        case o3 => have := hfr.size; have := hf4.size; have := hf5.size; have := hR.lt; simp; omega
        case o4 => simp only [maxLen]; omega
        case o5 => omega
      · have HX := Lib.hid hx
        have hbx : bNx s j 124 = false := by simp [bNx, hx]
        clear hx
        go_wp2_with (go_at_call 38; refine (take_any b s j bd 124 _ rfl _ hp h2 hs).mono ?_; rintro e w4 ⟨rfl, hp4, hf4⟩; rw [if_neg HX.out] at hp4)
        go_meet
        exact ⟨j, bd, rs, hO.old hf4 (by simp; omega), hp4, hfr.trans hf4, hR.fr hf4 (by simp; omega), h1, h2, h6, H4.out, H5.out, HX.out⟩
  case rest =>
    obtain ⟨j, bd, rs, hO, hp, hfr, hR, h1, h2, h6, h4, h5, h7⟩ := hcut
    obtain ⟨a1, cap1, rfl⟩ := hO.form
    have H4 := Lib.hid h4
    have H5 := Lib.hid h5
    have HX7 := Lib.hid h7
    have hc2 := hp.cell 2 rfl
    have hf2' := hp.free 2
    have hr0 := hR.cell 0 rfl
    have hr1 := hR.cell 1 rfl
    have hr2 := hR.cell 2 rfl
    have hrf0 := hR.free 0
    have hrf1 := hR.free 1
    have hrf2 := hR.free 2
    have hbR' : b ≠ w.heap.size := by omega
    clear h4 h5 h7
    cases bd with
    | true =>
      go_wp2_with fail
      refine par_end (bad' := true) (q := j) (rs := rs) (hp.set 2 _) (hfr.setCell (.inl (by simp)) _) hbw (hO.old ((Fr.refl [b] _).setCell (.inl (by simp)) _) (by simp; omega)) (hR.other (Ne.symm hbR') _) (by omega) h2 (fun _ => h1) (fun _ => rfl) (fun hb => ?_) 0 rfl rfl
      rw [(H5.out hb).1 rfl]; rfl
    | false =>
      have hbad : bad = false := by
        cases bad with
        | false => rfl
        | true => exact (H4.out rfl).symm
      have hst := (H5.out hbad).stop HX7.out
      have HST := Lib.hid hst
      have HB := Lib.hid hbad
      clear hst hbad
      by_cases hl : rs.length < 2
      · have hl' : decide ((rs.length : Int) < 2) = true := by simp; omega
        have E := Lib.hid (show finPar s rs j = none by simp [finPar, hl])
        go_wp2_with fail
        refine par_end (bad' := true) (q := j) (rs := rs) (hp.set 2 _) (hfr.setCell (.inl (by simp)) _) hbw (hO.old ((Fr.refl [b] _).setCell (.inl (by simp)) _) (by simp; omega)) (hR.other (Ne.symm hbR') _) (by omega) h2 (fun _ => h1) (fun _ => rfl) (fun hb => ?_) 0 rfl rfl
        rw [HST.out, E.out]; rfl
      · have hl' : decide ((rs.length : Int) < 2) = false := by simp; omega
        have HL := Lib.hid hl
        clear hl
        by_cases hx : nx s j = 41
        · have hj : j < s.size := nx_lt (by rw [hx]; decide)
          have E := Lib.hid (show finPar s rs j = some (.par rs, j + 1) by simp [finPar, HL.out, hx])
          have HX := Lib.hid hx
          have hbx : bNx s j 41 = true := by simp [bNx, hx]
          clear hx
          go_wp2_with (go_at_call 38; refine (take_any b s j false 41 _ rfl _ hp h2 hs).mono ?_; rintro e w4 ⟨rfl, hp4, hf4⟩; rw [if_pos HX.out] at hp4; have hc2 := hp4.cell 2 rfl; have hf2' := hp4.free 2; have hR4 := hR.fr hf4 (by simp; omega); have hr0 := hR4.cell 0 rfl; have hr1 := hR4.cell 1 rfl; have hr2 := hR4.cell 2 rfl; have hrf0 := hR4.free 0; have hrf1 := hR4.free 1; have hrf2 := hR4.free 2)
          refine par_end (bad' := false) (q := j + 1) (rs := rs) (hp4.set 2 _) ((hfr.trans hf4).setCell (.inl (by simp)) _) hbw ((hO.old hf4 (by simp; omega)).old ((Fr.refl [b] _).setCell (.inl (by simp)) _) (by simp; omega)) (hR4.other (Ne.symm hbR') _) (by omega) (by omega) (fun _ => by omega) (fun h => by simp [HB.out] at h) (fun hb => ?_) 0 rfl rfl
          rw [HST.out, E.out]; exact ⟨rfl, rfl, rfl⟩
        · have E := Lib.hid (show finPar s rs j = none by simp [finPar, hx])
          have HX := Lib.hid hx
          have hbx : bNx s j 41 = false := by simp [bNx, hx]
          clear hx
          go_wp2_with (go_at_call 38; refine (take_any b s j false 41 _ rfl _ hp h2 hs).mono ?_; rintro e w4 ⟨rfl, hp4, hf4⟩; rw [if_neg HX.out] at hp4; have hc2 := hp4.cell 2 rfl; have hf2' := hp4.free 2; have hR4 := hR.fr hf4 (by simp; omega); have hr0 := hR4.cell 0 rfl; have hr1 := hR4.cell 1 rfl; have hr2 := hR4.cell 2 rfl; have hrf0 := hR4.free 0; have hrf1 := hR4.free 1; have hrf2 := hR4.free 2)
          refine par_end (bad' := true) (q := j) (rs := rs) (hp4.set 2 _) ((hfr.trans hf4).setCell (.inl (by simp)) _) hbw ((hO.old hf4 (by simp; omega)).old ((Fr.refl [b] _).setCell (.inl (by simp)) _) (by simp; omega)) (hR4.other (Ne.symm hbR') _) (by omega) h2 (fun _ => h1) (fun _ => rfl) (fun hb => ?_) 0 rfl rfl
          rw [HST.out, E.out]; rfl

/-- Part and row, whatever the fuel. -/
theorem pr_all : ∀ n f, f ≤ n → PartC f ∧ RowC f := by
  intro n
  induction n with
  | zero =>
    intro f hf
    refine ⟨fun s b i bad w hp hi hs hle => ?_, fun s b i bad w hp hi hs hle => ?_⟩ <;> omega
  | succ n ih =>
    intro f hf
    by_cases h0 : f = n + 1
    · subst h0
      have hP : PartC (n + 1) := by
        intro s b i bad w hp hi hs hle
        by_cases hx : nx s i = 40
        · exact part_par n (fun f' hf' => (ih f' hf').2) s b i bad w hp hi hs hx hle
        · exact part_leaf n s b i bad w hp hi hs hx
      exact ⟨hP, row_of_part n (fun f' hf' => (ih f' hf').1)⟩
    · exact ih f (by omega)
theorem row_any (f : Nat) : RowC f := (pr_all f f (Nat.le_refl _)).2
end Go.Proofs.Ytkfpoagjlaldgaa

