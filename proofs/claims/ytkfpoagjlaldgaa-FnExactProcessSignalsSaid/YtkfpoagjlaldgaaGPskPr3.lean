/- Contracts of the functions of the program and of the reference, each proved by a walk through its code. -/
import Derived.Test.YtkfpoagjlaldgaaGPskPr2
import Derived.Deep.RegionHeld3
import Derived.Deep.RegionWith
import Derived.Deep.DrawnRows
import Derived.Deep.DeepCutAuto
import Derived.Deep.CutBlock
import Derived.Deep.LoopGhost
set_option linter.all false
set_option maxRecDepth 20000
namespace Go.Proofs.Ytkfpoagjlaldgaa
open Go.RowKit

theorem scanN_eq {c : Nat → UInt8} {j : Nat} (hj : chName (c j) = false) : ∀ {n i : Nat}, i ≤ j → j - i < n → (∀ k, i ≤ k → k < j → chName (c k) = true) → scanN c n i = j := by
  intro n
  induction n with
  | zero => intro i h1 h2; omega
  | succ n ih =>
    intro i h1 h2 h3
    by_cases he : i = j
    · subst he; simp [scanN, hj]
    · simp only [scanN, h3 i (Nat.le_refl _) (by omega), if_pos]
      exact ih (by omega) (by omega) (fun k hk hkj => h3 k (by omega) hkj)

theorem extract_cut {s : ByteArray} {i j : Nat} (hij : i ≤ j) (hj : j ≤ s.size) : s.extract i j = cut (nx s) i j := by
  have h : (s.extract i j).data = (cut (nx s) i j).data := by
    apply Array.ext_getElem?
    intro k
    have hs : s.data.size = s.size := rfl
    simp only [ByteArray.data_extract, cut, List.getElem?_toArray, List.getElem?_map, Array.getElem?_extract]
    by_cases hk : k < j - i
    · have hlt : i + k < s.data.size := by omega
      have e : (nx s (i + k)) = s.data[i + k] := by unfold nx; rw [Array.getD_eq_getD_getElem?, Array.getElem?_eq_getElem hlt]; rfl
      rw [if_pos (by omega)]; simp [hk, e]
    · rw [if_neg (by omega)]; simp [hk]
  cases hx : s.extract i j; cases hy : cut (nx s) i j
  rw [hx, hy] at h; simp only at h; rw [h]

theorem mark_sorts (m : UInt8) :
    (((m.toNat : Int) == 33) = true ∧ ((m == 43 || m == 45) = false) ∧ (m == 33 || m == 63) = true) ∨
    (((m.toNat : Int) == 33) = false ∧ ((m.toNat : Int) == 63) = true ∧ ((m == 43 || m == 45) = false) ∧ (m == 33 || m == 63) = true) ∨
    (((m.toNat : Int) == 33) = false ∧ ((m.toNat : Int) == 63) = false ∧ ((m.toNat : Int) != 43) = false ∧ ((m == 43 || m == 45) = true) ∧ (m == 33 || m == 63) = false) ∨
    (((m.toNat : Int) == 33) = false ∧ ((m.toNat : Int) == 63) = false ∧ ((m.toNat : Int) != 43) = true ∧ ((m.toNat : Int) != 45) = false ∧ ((m == 43 || m == 45) = true) ∧ (m == 33 || m == 63) = false) ∨
    (((m.toNat : Int) == 33) = false ∧ ((m.toNat : Int) == 63) = false ∧ ((m.toNat : Int) != 43) = true ∧ ((m.toNat : Int) != 45) = true ∧ ((m == 43 || m == 45) = false) ∧ (m == 33 || m == 63) = false) := by
  have e : ∀ k : UInt8, (m == k) = (m.toNat == k.toNat) := fun k => by rw [Bool.eq_iff_iff]; simp [UInt8.toNat_inj]
  simp only [e, UInt8.reduceToNat, bne_iff_ne, beq_iff_eq, Bool.or_eq_true, Bool.or_eq_false_iff, beq_eq_false_iff_ne, bne_eq_false_iff_eq, ne_eq]
  omega

theorem leaf_out {s : ByteArray} {f i j : Nat} {nm : ByteArray} {m : UInt8} (hx : nx s i ≠ 40) (hj : scanN (nx s) 1001 i = j) (hn : s.extract i j = nm) (hm : nx s j = m) (hij : i ≤ j) (hjs : j ≤ s.size) {bad' : Bool} (hb : bad' = !leafOk nm m) :
    PartOut (parsePart (nx s) (f + 1) i) (.edge nm m) (min (j + 1) s.size) bad' := by
  have e : cut (nx s) i j = nm := by rw [← hn, extract_cut hij hjs]
  simp only [parsePart, hx, if_neg, hj, e, hm, not_false_eq_true]
  subst hb
  by_cases hl : leafOk nm m = true
  · have hlt : j < s.size := nx_lt (by
      rw [hm]; rintro rfl
      simp [leafOk] at hl)
    simp only [hl, if_pos, PartOut]
    refine ⟨?_, ?_, ?_⟩ <;> first | trivial | omega
  · simp [hl, PartOut]

theorem Try.agg_part : AggInfo Try.prog 40 3 := ⟨⟨_, Try.underlying40, rfl⟩, by kernel_rfl⟩

/-- The leaf's end: the world behind the last stores. -/
def LeafW (wc : World) (b R : Nat) (nm : ByteArray) (m : UInt8) (bad' : Bool) : World :=
  (((wc.setCell ⟨b, 2, none⟩ (.bool bad')).setCell ⟨R, 0, none⟩ (.string nm)).setCell ⟨R, 1, none⟩ (.int .u8 (m.toNat : Int))).setCell ⟨R, 2, none⟩ (.slice none 0 0)

theorem leaf_end {f : Nat} {s : ByteArray} {b i q R : Nat} {bad bad' : Bool} {nm : ByteArray} {m : UInt8} {w wc : World} {a : Act} (hp : PR wc b s q bad) (hfr : Fr [b] w wc) (hbR : b ≠ R) (hRw : w.heap.size ≤ R) (hnz : nm.size ≤ 1000)
    {v0 v1 v2 : Value} (hR : Blk wc R 40 [v0, v1, v2]) (h1 : i ≤ q) (h2 : q ≤ s.size) (h3 : i < s.size → i < q) (h4 : bad = true → bad' = true) (h5 : bad = false → PartOut (parsePart (nx s) (f + 1) i) (.edge nm m) q bad') (n : Nat)
    (hd : a.defers = []) (ht : a.tmps.getD 2 undef = .pointer (some ⟨R, 0, none⟩)) :
    bodyPost Try.prog Try.f37 (PartPost (f + 1) s b i bad w) .ret a ((LeafW wc b R nm m bad').drewN n) := by
  have hB : Blk ((LeafW wc b R nm m bad').drewN n) R 40 [.string nm, .int .u8 (m.toNat : Int), .slice none 0 0] := ((((hR.other (p := ⟨b, 2, none⟩) (Ne.symm hbR) (.bool bad')).set 0 (.string nm)).set 1 (.int .u8 (m.toNat : Int))).set 2 (.slice none 0 0)).drewN n
  refine body_cell (fn := Try.f37) rfl ht hB Try.agg_part hd ?_
  refine ⟨_, _, _, .edge nm m, q, bad', rfl, tr_edge.2 ⟨rfl, by simp only [maxLen]; omega⟩, ?_, ?_, h1, h2, h3, h4, h5⟩
  · exact ((((hp.set 2 _).other hbR _).other hbR _).other hbR _).drewN n
  · exact ((((hfr.setCell (.inl (by simp)) _).setCell (.inr hRw) _).setCell (.inr hRw) _).setCell (.inr hRw) _).drewN n

set_option maxHeartbeats 8000000 in
set_option maxRecDepth 100000 in
theorem part_leaf (f : Nat) (s : ByteArray) (b i : Nat) (bad : Bool) (w : World) (hp : PR w b s i bad) (hi : i ≤ s.size) (hs : s.size ≤ 1000) (hx : nx s i ≠ 40) :
    Calls Try.prog 37 #[.pointer (some ⟨b, 0, none⟩)] w (PartPost (f + 1) s b i bad w) := by
  have hbw := hp.lt
  have HX := Lib.hid hx
  have hbx : bNx s i 40 = false := by simp [bNx, hx]
  clear hx
  go_enter Try.func37, Try.ntmps37
  go_upto_block 2 with (first
    | (go_at_call 38; refine (take_any b s i bad 40 _ rfl _ (hp.alloc _) hi hs).mono ?_; rintro e w2 ⟨rfl, hp2, hf2⟩; rw [if_neg HX.out] at hp2; have hc1 := hp2.cell 1 rfl; have hsz := hf2.size; simp at hsz)
    | (go_at_call 44; refine (next_any b s i bad _ hp2 hi hs).mono ?_; rintro e w3 ⟨rfl, n3, rfl⟩))
  have hR : Blk w2 w.heap.size 40 [.string ByteArray.empty, .int .u8 0, .slice none 0 0] := (Blk.new w 40 [.string ByteArray.empty, .int .u8 0, .slice none 0 0]).fr hf2 (by simp; omega)
  have hfr2 : Fr [b] w w2 := ((Fr.refl _ w).alloc _).trans hf2
  clear hc1
  go_cut [5] (fun _ wx => ∃ j, i ≤ j ∧ j ≤ s.size ∧ PR wx b s j bad ∧ Blk wx w.heap.size 40 [.string ByteArray.empty, .int .u8 0, .slice none 0 0] ∧ Fr [b] w wx ∧ scanN (nx s) 1001 i = j)
  case first =>
    go_wp2
    go_loopg [5] (s.size - i) (fun m c wr => ∃ j, m = s.size - j ∧ i ≤ j ∧ j ≤ s.size ∧ c = .int .u8 ((nx s j).toNat : Int) ∧ PR wr b s j bad ∧ Blk wr w.heap.size 40 [.string ByteArray.empty, .int .u8 0, .slice none 0 0] ∧ Fr [b] w wr ∧ (∀ k, i ≤ k → k < j → chName (nx s k) = true))
    case atStart => exact ⟨i, rfl, Nat.le_refl _, hi, rfl, hp2.drewN _, hR.drewN _, hfr2.drewN _, fun k h1 h2 => by omega⟩
    case round =>
      obtain ⟨j, rfl, h1, h2, rfl, hp, hR, hfr, hall⟩ := hrel
      have HA := Lib.hid hall
      have hc1 := hp.cell 1 rfl
      have hf1 := hp.free 1
      clear hall
      have hstop : chName (nx s j) = false → scanN (nx s) 1001 i = j := fun hc => scanN_eq hc h1 (by omega) HA.out
      have hgo : chName (nx s j) = true → j < s.size ∧ ∀ k, i ≤ k → k < j + 1 → chName (nx s k) = true := fun hc =>
        ⟨nx_lt (fun h0 => by rw [h0] at hc; exact absurd hc (by decide)), fun k hk hkj => by
          by_cases he : k = j
          · subst he; exact hc
          · exact HA.out k hk (by omega)⟩
      rcases byte_sorts (nx s j) with ⟨g1, g2, g3, g4⟩ | ⟨g1, g2, g5, g3, g4⟩ | ⟨g1, g2, g5, g3, g4⟩ | ⟨g1, g6, g2, g5, g3, g4⟩ | ⟨g1, g6, g2, g5, g3, g4⟩
      all_goals first
        | (have HS := Lib.hid (hstop g3); clear hstop hgo g3 g4; go_wp2; go_meet; exact ⟨j, h1, h2, hp, hR, hfr, HS.out⟩)
        | (obtain ⟨hlt, hs'⟩ := hgo g3
           have HS := Lib.hid hs'
           clear hstop hgo g3 g4 hs'
           have hp' : PR (wr.setCell ⟨b, 1, none⟩ (.int .i64 ((j + 1 : Nat) : Int))) b s (j + 1) bad := hp.set 1 _
           have hR' := hR.other (p := ⟨b, 1, none⟩) (by simp; omega) (.int .i64 ((j + 1 : Nat) : Int))
           have hfr' := hfr.setCell (p := ⟨b, 1, none⟩) (.inl (by simp)) (.int .i64 ((j + 1 : Nat) : Int))
           go_wp2_with (go_at_call 44; refine (next_any b s (j + 1) bad _ hp' (by omega) hs).mono ?_; rintro e w3 ⟨rfl, n3, rfl⟩)
           have HX := Lib.hid (hp'.drewN n3)
           go_roundg (s.size - (j + 1))
           case rel => exact ⟨j + 1, rfl, by omega, by omega, rfl, HX.out, hR'.drewN _, hfr'.drewN _, HS.out⟩
           case measure => omega)
  case rest =>
    obtain ⟨j, h1, h2, hp, hR, hfr, hj⟩ := hcut
    have HJ := Lib.hid hj
    have hc0 := hp.cell 0 rfl
    have hc1 := hp.cell 1 rfl
    have hf1 := hp.free 1
    have b0 : (0 : Int) ≤ (i : Int) := by omega
    have b1 : (i : Int) ≤ (j : Int) := by omega
    have b2 : (j : Int) ≤ (s.size : Int) := by omega
    clear hj hp2 hfr2
    obtain ⟨wb, rfl⟩ : ∃ wb : World, wb = wc := ⟨_, rfl⟩
    go_upto_region 12 with fail
    go_cut [6] (fun q wx => q = .pointer (some ⟨wb.heap.size, 0, none⟩) ∧ PR wx b s j bad ∧ Fr [b] w wx ∧ Blk wx w.heap.size 40 [.string ByteArray.empty, .int .u8 0, .slice none 0 0] ∧
      Blk wx wb.heap.size 40 [.string (s.extract i j), .int .u8 ((nx s j).toNat : Int), .slice none 0 0])
    case first =>
      go_region_held3 (fun w' => w'.cell? ⟨b, 0, none⟩ = some (.string s) ∧ w'.cell? ⟨b, 1, none⟩ = some (.int .i64 j)) (go_keep)
        ((go_at_call 44; refine (next_any b s j bad _ (by first | exact hp | exact hp.alloc _) h2 hs).mono ?_; rintro e w3 ⟨rfl, n3, rfl⟩))
      all_goals (go_wp2_with fail; go_meet; exact ⟨rfl, (hp.alloc _).drewN _, (hfr.alloc _).drewN _, (hR.alloc _).drewN _, (Blk.new wb _ _).drewN _⟩)
    case rest =>
      obtain ⟨rfl, hp, hfr, hR, hB⟩ := hcut
      have hsw := hfr.size
      obtain ⟨wd, rfl⟩ : ∃ wd : World, wd = wc := ⟨_, rfl⟩
      have hbB : b ≠ wb.heap.size := by
        have := hp.lt; rintro rfl
        have h1 := hp.symm.trans hB
        simp at h1
      have hbR : b ≠ w.heap.size := by omega
      go_upto_region 13 with fail
      go_cut [8] (fun _ wx => PR wx b s (min (j + 1) s.size) bad ∧ Fr [b] w wx ∧ Blk wx w.heap.size 40 [.string ByteArray.empty, .int .u8 0, .slice none 0 0] ∧
        Blk wx wb.heap.size 40 [.string (s.extract i j), .int .u8 ((nx s j).toNat : Int), .slice none 0 0])
      case first =>
        have hc0 := hp.cell 0 rfl
        have hc1 := hp.cell 1 rfl
        have hf1 := hp.free 1
        by_cases hjs : j < s.size
        · go_region
          go_wp2_with fail
          go_meet
          exact ⟨by rw [show min (j + 1) s.size = j + 1 by omega]; exact hp.set 1 _, (hfr.setCell (.inl (by simp)) _).drew, hR.other (by exact hbR.symm) _, hB.other (by exact hbB.symm) _⟩
        · go_region
          go_wp2_with fail
          go_meet
          exact ⟨by rw [show min (j + 1) s.size = s.size by omega]; exact hp.set 1 _, (hfr.setCell (.inl (by simp)) _).drew, hR.other (by exact hbR.symm) _, hB.other (by exact hbB.symm) _⟩
      case rest =>
        obtain ⟨hp, hfr, hR, hB⟩ := hcut
        generalize hn : s.extract i j = nm at hB
        generalize hm : nx s j = m at hB
        have HLO := Lib.hid (fun bad' hb => leaf_out (f := f) (bad' := bad') HX.out HJ.out hn hm h1 h2 hb)
        have hnz : nm.size ≤ 1000 := by rw [← hn, ByteArray.size_extract]; omega
        have hj1 : i < s.size → i < min (j + 1) s.size := by omega
        clear hn hm
        have hq0 := hB.cell 0 rfl
        have hq1 := hB.cell 1 rfl
        have hq2 := hB.cell 2 rfl
        have hr0 := hR.cell 0 rfl
        have hr1 := hR.cell 1 rfl
        have hr2 := hR.cell 2 rfl
        have hrf0 := hR.free 0
        have hrf1 := hR.free 1
        have hrf2 := hR.free 2
        have hc2 := hp.cell 2 rfl
        have hcf2 := hp.free 2
        have hqi : i ≤ min (j + 1) s.size := by omega
        have hqs : min (j + 1) s.size ≤ s.size := Nat.min_le_right _ _
        generalize hq : min (j + 1) s.size = q at *
        have hfalse : ∀ (a : Act) (n : Nat) (bad' : Bool), bad = false → bad' = (!leafOk nm m) → a.defers = [] → a.tmps.getD 2 undef = .pointer (some ⟨w.heap.size, 0, none⟩) → bodyPost Try.prog Try.f37 (PartPost (f + 1) s b i bad w) .ret a ((LeafW wc b w.heap.size nm m bad').drewN n) :=
          fun a n bad' hb0 hb1 => leaf_end hp hfr hbR (Nat.le_refl _) hnz hR hqi hqs hj1 (fun h => by rw [hb0] at h; cases h) (fun _ => HLO.out bad' hb1) n
        have htrue : ∀ (a : Act) (n : Nat), bad = true → a.defers = [] → a.tmps.getD 2 undef = .pointer (some ⟨w.heap.size, 0, none⟩) → bodyPost Try.prog Try.f37 (PartPost (f + 1) s b i bad w) .ret a ((LeafW wc b w.heap.size nm m true).drewN n) :=
          fun a n hb0 => leaf_end (bad' := true) hp hfr hbR (Nat.le_refl _) hnz hR hqi hqs hj1 (fun _ => rfl) (fun h => by rw [hb0] at h; cases h) n
        have HF : Hid _ := hfalse
        have HT : Hid _ := htrue
        clear hfalse htrue hq hj1 hqi hqs
        rcases mark_sorts m with ⟨g1, e1, e2⟩ | ⟨g1, g2, e1, e2⟩ | ⟨g1, g2, g3, e1, e2⟩ | ⟨g1, g2, g3, g4, e1, e2⟩ | ⟨g1, g2, g3, g4, e1, e2⟩
        all_goals
          have L0 := Lib.hid (show nameOk nm.data.toList = false → leafOk nm m = false from fun h => by simp [leafOk, h])
          have L1 := Lib.hid (show nameOk nm.data.toList = true → leafOk nm m = (m == 43 || m == 45 || ((m == 33 || m == 63) && decide (nm.size ≤ 5))) from fun h => by simp [leafOk, h])
          rw [e1, e2] at L1
          clear e1 e2
          cases bad with
          | true =>
            go_wp2_with fail
            exact HT.out _ 0 trivial rfl rfl
          | false =>
            cases hn : nameOk nm.data.toList with
            | false =>
              have E := Lib.hid (L0.out hn)
              have HN := Lib.hid hn
              clear hn
              go_wp2_with (go_at_call 45; refine (isName_any nm _ (by omega)).mono ?_; rintro e w' ⟨rfl, n, rfl⟩; rw [HN.out])
              exact HF.out _ n true trivial (by rw [E.out]; rfl) rfl rfl
            | true =>
              have E1 := Lib.hid (L1.out hn)
              have HN := Lib.hid hn
              clear hn
              first
                | (have E := Lib.hid (show leafOk nm m = true from E1.out)
                   go_wp2_with (go_at_call 45; refine (isName_any nm _ (by omega)).mono ?_; rintro e w' ⟨rfl, n, rfl⟩; rw [HN.out])
                   exact HF.out _ n false trivial (by rw [E.out]; rfl) rfl rfl)
                | (have E := Lib.hid (show leafOk nm m = false from E1.out)
                   go_wp2_with (go_at_call 45; refine (isName_any nm _ (by omega)).mono ?_; rintro e w' ⟨rfl, n, rfl⟩; rw [HN.out])
                   exact HF.out _ n true trivial (by rw [E.out]; rfl) rfl rfl)
                | (by_cases hz : nm.size ≤ 5
                   · have E := Lib.hid (show leafOk nm m = true by rw [E1.out]; simp [hz])
                     have hz' : decide ((5 : Int) < (nm.size : Int)) = false := by simp; omega
                     go_wp2_with (go_at_call 45; refine (isName_any nm _ (by omega)).mono ?_; rintro e w' ⟨rfl, n, rfl⟩; rw [HN.out])
                     exact HF.out _ n false trivial (by rw [E.out]; rfl) rfl rfl
                   · have E := Lib.hid (show leafOk nm m = false by rw [E1.out]; simp [hz])
                     have hz' : decide ((5 : Int) < (nm.size : Int)) = true := by simp; omega
                     go_wp2_with (go_at_call 45; refine (isName_any nm _ (by omega)).mono ?_; rintro e w' ⟨rfl, n, rfl⟩; rw [HN.out])
                     exact HF.out _ n true trivial (by rw [E.out]; rfl) rfl rfl)
end Go.Proofs.Ytkfpoagjlaldgaa

