/- Contracts of the functions of the program and of the reference, each proved by a walk through its code. -/
import Derived.Test.YtkfpoagjlaldgaaGPskProc
import Derived.Test.YtkfpoagjlaldgaaGPskLp5
import Derived.Test.YtkfpoagjlaldgaaGPskShelf
set_option linter.all false
set_option maxRecDepth 20000
namespace Go.Proofs.Ytkfpoagjlaldgaa
open Go.RowKit

theorem nx_mk (l : List UInt8) (i : Nat) : nx ⟨l.toArray⟩ i = l.getD i 0 := by
  simp [nx, Array.getD_eq_getD_getElem?, List.getD]
theorem nx_list (s : ByteArray) (i : Nat) : nx s i = s.data.toList.getD i 0 := by
  simp [nx, Array.getD_eq_getD_getElem?, List.getD]

def inner1 (s : ByteArray) : ByteArray := ⟨(Lib.trimPrefix s.data.toList [42, 91]).toArray⟩
def inner2 (s : ByteArray) : ByteArray := ⟨(Lib.trimSuffix (inner1 s).data.toList [93]).toArray⟩

/-- What the program reads is the process. -/
theorem procOf_inner (s : ByteArray) : procOf s =
    if Lib.hasPrefix s.data.toList [42, 91] = true ∧ Lib.hasSuffix (inner1 s).data.toList [93] = true ∧ s.size ≤ 200 then
      match parseRow (nx (inner2 s)) 1000 0 with
      | none => none
      | some (ts, j) => if j = (inner2 s).size then some ts else none
    else none := by
  have hsz : s.data.toList.length = s.size := by simp
  by_cases hp : Lib.hasPrefix s.data.toList [42, 91] = true
  · obtain ⟨r, hr⟩ : ∃ r, s.data.toList = [42, 91] ++ r := by
      have := List.isPrefixOf_iff_prefix.1 hp
      obtain ⟨r, hr⟩ := this
      exact ⟨r, hr.symm⟩
    have h1 : (inner1 s).data.toList = r := by
      show (Lib.trimPrefix s.data.toList [42, 91]).toArray.toList = r
      rw [Lib.trimPrefix, if_pos hp, hr]; simp
    have hn : ∀ i, nx s (i + 2) = r.getD i 0 := fun i => by rw [nx_list, hr]; simp [List.getD]
    have h0 : nx s 0 = 42 ∧ nx s 1 = 91 := by rw [nx_list, nx_list, hr]; simp [List.getD]
    have hsr : s.size = r.length + 2 := by rw [← hsz, hr]; simp
    by_cases hs : Lib.hasSuffix (inner1 s).data.toList [93] = true
    · obtain ⟨q, hq⟩ : ∃ q, r = q ++ [93] := by
        rw [h1] at hs
        obtain ⟨q, hq⟩ := List.isSuffixOf_iff_suffix.1 hs
        exact ⟨q, hq.symm⟩
      have h2 : inner2 s = ⟨q.toArray⟩ := by
        have hs' : Lib.hasSuffix (q ++ [93]) [93] = true := by rw [← hq, ← h1]; exact hs
        simp [inner2, h1, hq, Lib.trimSuffix, hs']
      have hqs : (inner2 s).size = q.length := by rw [h2]; simp [ByteArray.size]
      have hsh : Sh (nx (inner2 s)) (nx s) 2 q.length := by
        refine ⟨fun k hk => ?_, ?_, ?_⟩
        · rw [h2, nx_mk, hn, hq]; simp [List.getD, List.getElem?_append_left hk]
        · rw [h2, nx_mk]; simp [List.getD]; decide
        · rw [hn, hq]; simp [List.getD]; decide
      have hpz := (hsh.parse 1000 0 (Nat.zero_le _)).2.1
      unfold procOf
      by_cases hz : s.size ≤ 200
      · simp only [hz, h0.1, h0.2, and_self, if_pos, hp, hs]
        rw [show 0 + 2 = 2 by rfl] at hpz
        cases hc : parseRow (nx (inner2 s)) 1000 0 with
        | none => rw [hc] at hpz; simp only [shO] at hpz; simp [hpz]
        | some y =>
          obtain ⟨ts, j⟩ := y
          rw [hc] at hpz
          obtain ⟨hz1, hz2⟩ := hpz
          simp only [hz1]
          by_cases hj : j = (inner2 s).size
          · have e1 : nx s (j + 2) = 93 := by rw [hn, hj, hqs, hq]; simp [List.getD]
            have e2 : j + 2 + 1 = s.size := by rw [hsr, hq, hj, hqs]; simp
            rw [if_pos ⟨e1, e2⟩, if_pos hj]
          · have e2 : ¬ (j + 2 + 1 = s.size) := by rw [hsr, hq]; simp; rw [hqs] at hj; omega
            rw [if_neg (fun h => e2 h.2), if_neg hj]
      · simp [hz]
    · rw [if_neg (fun h => hs h.2.1)]
      unfold procOf
      split
      · cases hc : parseRow (nx s) 1000 2 with
        | none => rfl
        | some y =>
          obtain ⟨ts, j⟩ := y
          simp only
          rw [if_neg]
          rintro ⟨a1, a2⟩
          apply hs
          rw [h1]
          have hj2 : 2 ≤ j := by
            rcases Nat.lt_or_ge j 2 with h | h
            · have : j = 0 ∨ j = 1 := by omega
              rcases this with rfl | rfl
              · rw [h0.1] at a1; cases a1
              · rw [h0.2] at a1; cases a1
            · exact h
          obtain ⟨k, rfl⟩ : ∃ k, j = k + 2 := ⟨j - 2, by omega⟩
          rw [hn] at a1
          have hk : k + 1 = r.length := by omega
          refine List.isSuffixOf_iff_suffix.2 ⟨r.take k, ?_⟩
          have hkl : k < r.length := by omega
          have e : r[k] = 93 := by simpa [List.getD, hkl] using a1
          rw [← e, List.take_append_getElem hkl, hk, List.take_length]
      · rfl
  · rw [if_neg (fun h => hp h.1)]
    unfold procOf
    rw [if_neg]
    rintro ⟨a0, a1, a2⟩
    apply hp
    rw [nx_list] at a1 a2
    refine List.isPrefixOf_iff_prefix.2 ?_
    match hl : s.data.toList, a1, a2 with
    | [], a1, _ => simp [List.getD] at a1
    | [x], _, a2 => simp [List.getD] at a2
    | x :: y :: l, a1, a2 =>
      simp [List.getD] at a1 a2
      subst a1; subst a2
      exact ⟨l, rfl⟩

def RowOfPost (s : ByteArray) (w : World) (e : Ending) (w' : World) : Prop :=
  ∃ v, Fr [] w w' ∧ match procOf s with
    | none => v = .slice none 0 0 ∧ e = .returned (.tuple #[v, .bool false])
    | some ts => e = .returned (.tuple #[v, .bool true]) ∧ SL (fun k => w.heap.size ≤ k) 40 tr w' v ts
set_option maxHeartbeats 1000000 in
theorem rowOf_any (s : ByteArray) (w : World) (hs : s.size ≤ 9223372036854775807) : Calls Try.prog 14 #[.string s] w (RowOfPost s w) := by
  have hin1 : (inner1 s).size ≤ s.size := by
    have h0 : s.data.toList.length = s.size := by simp
    show (Lib.trimPrefix s.data.toList [42, 91]).toArray.size ≤ s.size
    simp only [List.size_toArray, Lib.trimPrefix]
    split
    · rw [List.length_drop]; omega
    · omega
  have hin2 : (inner2 s).size ≤ (inner1 s).size := by
    have h0 : (inner1 s).data.toList.length = (inner1 s).size := by simp
    show (Lib.trimSuffix (inner1 s).data.toList [93]).toArray.size ≤ _
    simp only [List.size_toArray, Lib.trimSuffix]
    split
    · rw [List.length_take]; omega
    · omega
  have hpo := procOf_inner s
  have HP := Lib.hid hpo
  have cp := Try.strings_CutPrefix s ⟨#[42, 91]⟩
  have cs := Try.strings_CutSuffix (inner1 s) ⟨#[93]⟩
  have CP : Hid (∀ w, Calls Try.prog 27 #[.string s, .string ⟨#[42, 91]⟩] w fun e w' => e = .returned (.tuple #[.string (inner1 s), .bool (Lib.hasPrefix s.data.toList [42, 91])]) ∧ w = w') := fun w => (cp w).mono fun _ _ h => ⟨h.1, h.2.symm⟩
  have CS : Hid (∀ w, Calls Try.prog 28 #[.string (inner1 s), .string ⟨#[93]⟩] w fun e w' => e = .returned (.tuple #[.string (inner2 s), .bool (Lib.hasSuffix (inner1 s).data.toList [93])]) ∧ w = w') := fun w => (cs w (by omega)).mono fun _ _ h => ⟨h.1, h.2.symm⟩
  clear hpo cp cs
  cases h1 : Lib.hasPrefix s.data.toList [42, 91] with
  | false =>
    have E := Lib.hid (show procOf s = none by rw [HP.out, if_neg (by simp [h1])])
    have H1 := Lib.hid h1
    clear h1
    go_enter Try.func14, Try.ntmps14
    go_wp2_with (first
      | (go_at_call 27; refine (CP.out _).mono ?_; rw [H1.out]; rintro e w' ⟨rfl, rfl⟩)
      | (go_at_call 28; refine (CS.out _).mono ?_; rintro e w' ⟨rfl, rfl⟩))
    go_ret2
    exact ⟨.slice none 0 0, Fr.refl _ _, by rw [E.out]; exact ⟨rfl, rfl⟩⟩
  | true =>
    cases h2 : Lib.hasSuffix (inner1 s).data.toList [93] with
    | false =>
      have E := Lib.hid (show procOf s = none by rw [HP.out, if_neg (by simp [h2])])
      have H1 := Lib.hid h1
      have H2 := Lib.hid h2
      clear h1 h2
      go_enter Try.func14, Try.ntmps14
      go_wp2_with (first
        | (go_at_call 27; refine (CP.out _).mono ?_; rw [H1.out]; rintro e w' ⟨rfl, rfl⟩)
        | (go_at_call 28; refine (CS.out _).mono ?_; rw [H2.out]; rintro e w' ⟨rfl, rfl⟩))
      go_ret2
      exact ⟨.slice none 0 0, Fr.refl _ _, by rw [E.out]; exact ⟨rfl, rfl⟩⟩
    | true =>
      have H1 := Lib.hid h1
      have H2 := Lib.hid h2
      by_cases hz : s.size ≤ 200
      · have hz' : decide ((200 : Int) < (s.size : Int)) = false := by simp; omega
        have E := Lib.hid (show procOf s = _ by rw [HP.out, if_pos ⟨h1, h2, hz⟩])
        clear h1 h2
        have hp0 : ∀ w : World, PR (w.alloc (.cells #[.string (inner2 s), .int .i64 0, .bool false] 58)) w.heap.size (inner2 s) 0 false := fun w => Blk.new w _ _
        go_enter Try.func14, Try.ntmps14
        go_upto_region 7 with (first
          | (go_at_call 27; refine (CP.out _).mono ?_; rw [H1.out]; rintro e w' ⟨rfl, rfl⟩)
          | (go_at_call 28; refine (CS.out _).mono ?_; rw [H2.out]; rintro e w' ⟨rfl, rfl⟩)
          | (go_at_call 29; refine (row_any 1000 (inner2 s) w.heap.size 0 false _ (hp0 w) (Nat.zero_le _) (by omega) (by omega)).mono ?_; rintro e w3 ⟨v, ts, j, bd, rfl, hsl, hp3, hf3, k1, k2, k3, k4, k5⟩; obtain ⟨a0, cap0, rfl, _, _, hsl⟩ := hsl.form; have K5 := Lib.hid (k5 (by trivial)); clear k5 k4 k3; have hc1 := hp3.cell 1 rfl; have hc2 := hp3.cell 2 rfl))
        have hfr : Fr [] w w3 := ((Fr.refl [] w).alloc _).trans_new hf3 (by simp)
        have hsl' : SL (fun k => w.heap.size ≤ k) 40 tr w3 (.slice a0 ts.length cap0) ts := hsl.mono (fun k hk => by simp at hk; omega)
        have HSL := Lib.hid hsl'
        clear hsl hsl'
        cases bd with
        | true =>
          have E2 := Lib.hid (show procOf s = none by
            rw [E.out]; have h5 := K5.out
            cases hc : parseRow (nx (inner2 s)) 1000 0 with
            | none => rfl
            | some y => obtain ⟨a, b⟩ := y; rw [hc] at h5; exact absurd h5.2.2 (by simp))
          go_wp2_with fail
          go_ret2
          exact ⟨.slice none 0 0, hfr, by rw [E2.out]; exact ⟨rfl, rfl⟩⟩
        | false =>
          by_cases hj : j = (inner2 s).size
          · have hj' : ((j : Int) != ((inner2 s).size : Int)) = false := by simp; omega
            have E2 := Lib.hid (show procOf s = some ts by
              rw [E.out]; have h5 := K5.out
              cases hc : parseRow (nx (inner2 s)) 1000 0 with
              | none => rw [hc] at h5; simp [RowOut] at h5
              | some y => obtain ⟨a, b⟩ := y; rw [hc] at h5; obtain ⟨rfl, rfl, _⟩ := h5; simp [hj])
            clear hj
            go_wp2_with fail
            go_ret2
            exact ⟨_, hfr, by rw [E2.out]; exact ⟨rfl, HSL.out⟩⟩
          · have hj' : ((j : Int) != ((inner2 s).size : Int)) = true := by simp; omega
            have E2 := Lib.hid (show procOf s = none by
              rw [E.out]; have h5 := K5.out
              cases hc : parseRow (nx (inner2 s)) 1000 0 with
              | none => rfl
              | some y => obtain ⟨a, b⟩ := y; rw [hc] at h5; obtain ⟨rfl, rfl, _⟩ := h5; simp [hj])
            clear hj
            go_wp2_with fail
            go_ret2
            exact ⟨.slice none 0 0, hfr, by rw [E2.out]; exact ⟨rfl, rfl⟩⟩
      · have hz' : decide ((200 : Int) < (s.size : Int)) = true := by simp; omega
        have E := Lib.hid (show procOf s = none by rw [HP.out, if_neg (fun h => hz h.2.2)])
        clear h1 h2
        go_enter Try.func14, Try.ntmps14
        go_wp2_with (first
          | (go_at_call 27; refine (CP.out _).mono ?_; rw [H1.out]; rintro e w' ⟨rfl, rfl⟩)
          | (go_at_call 28; refine (CS.out _).mono ?_; rw [H2.out]; rintro e w' ⟨rfl, rfl⟩))
        go_ret2
        exact ⟨.slice none 0 0, Fr.refl _ _, by rw [E.out]; exact ⟨rfl, rfl⟩⟩

/-- A row that is begun when something is bad already. -/
theorem lrow_bad (s : ByteArray) (b : Nat) (K : Nat → Prop) (i : Nat) (ns : List Nd) (deep most : Nat) (w : World) (hp : LP w b K s i true ns deep most) (hK : ∀ k, w.heap.size ≤ k → K k) (hKb : ¬ K b) (hn : ns.length ≤ 1000) :
    Calls Try.prog 34 #[.pointer (some ⟨b, 0, none⟩)] w fun e w' => ∃ idx, e = .returned (.int .i64 idx) ∧ LP w' b K s i true (ns ++ [⟨bs [], true, []⟩]) deep most ∧ FrK b K w w' := by
  have HP := Lib.hid hp
  obtain ⟨nv, hb, hN⟩ := hp
  have hc2 := hb.cell 2 rfl
  have HK := Lib.hid hK
  have HKb := Lib.hid hKb
  clear hN hK hKb
  go_enter Try.func34, Try.ntmps34
  go_wp2
  go_loopg [3] 0 (fun m v wr => v = .slice none 0 0 ∧ wr = w)
  case atStart => exact ⟨rfl, rfl⟩
  case round =>
    obtain ⟨rfl, rfl⟩ := hrel
    go_wp2_with (go_at_call 41; refine (node_any b K s i true ns deep most ⟨bs [], true, []⟩ (.slice none 0 0) _ HP.out HK.out HKb.out ⟨_, rfl, Nat.zero_le _, SL.nil _ _ _ _⟩ (by omega)).mono ?_; rintro e w2 ⟨rfl, hp2, L, hf2, hL⟩)
    go_ret
    exact ⟨_, rfl, hp2, L, hf2, hL⟩

def ReadPost (s : ByteArray) (w : World) (e : Ending) (w' : World) : Prop :=
  ∃ i bad ns most, e = .returned (.pointer (some ⟨w.heap.size, 0, none⟩)) ∧ LP w' w.heap.size (fun k => w.heap.size < k) s i bad ns 0 most ∧ Fr [] w w' ∧ match procOf s with
    | none => bad = true
    | some ts => bad = false ∧ ns = layRow 0 ts ∧ most = depRow ts
theorem FrK.below {b : Nat} {K : Nat → Prop} {w w1 w2 : World} (h : FrK b K w1 w2) (f : Fr [] w w1) (hb : w.heap.size ≤ b) (hK : ∀ k, K k → w.heap.size ≤ k) : Fr [] w w2 := by
  obtain ⟨L, g, hL⟩ := h
  exact f.trans_new g (fun k hk => .inr (by
    rcases hL k hk with rfl | h
    · exact hb
    · exact hK k h))
set_option maxHeartbeats 1000000 in
theorem read_any (s : ByteArray) (w : World) (hs : s.size ≤ 9223372036854775807) : Calls Try.prog 22 #[.string s] w (ReadPost s w) := by
  have hb0 : LB (w.alloc (.cells #[.string s, .int .i64 0, .bool false, .slice none 0 0, .int .i64 0, .int .i64 0] 51)) w.heap.size s 0 false (.slice none 0 0) 0 0 := Blk.new w _ _
  have hc2 := hb0.cell 2 rfl
  have hg2 := hb0.free 2
  by_cases hz : s.size ≤ 200
  · have hz' : decide ((200 : Int) < (s.size : Int)) = false := by simp; omega
    have HB0 := Lib.hid hb0
    clear hb0 hc2 hg2
    go_enter Try.func22, Try.ntmps22
    go_upto_region 7 with (first
      | (go_at_call_of 33 (Value.int .u8 42); refine (ltake_any w.heap.size s 0 false (.slice none 0 0) 0 0 42 _ rfl _ HB0.out (by omega) (by omega)).mono ?_; rintro e w1 ⟨rfl, hb1, hf1⟩)
      | (go_at_call_of 33 (Value.int .u8 91); refine (ltake_any w.heap.size s 1 _ (.slice none 0 0) 0 0 91 _ rfl _ hb1 (by omega) (by omega)).mono ?_; rintro e w2 ⟨rfl, hb2, hf2⟩))
    have hw2 : w.heap.size < w2.heap.size := hb2.lt
    have hfr2 : Fr [] w w2 := (((Fr.refl [] w).alloc _).trans_new hf1 (by simp)).trans_new hf2 (by simp)
    have hp2 := (⟨_, hb2, Own.nil _ _ _ _ _⟩ : LP w2 w.heap.size (fun k => w.heap.size < k) s (0 + 1 + 1) _ [] 0 0)
    have hfin : ∀ (W : World) (i : Nat) (bad : Bool) (ns : List Nd) (most : Nat), i ≤ 100000 → LP W w.heap.size (fun k => w.heap.size < k) s i bad ns 0 most → Fr [] w W →
        (∀ b', b' = ((bad || !bNx s i 93) || !decide (i + 1 = s.size)) → match procOf s with | none => b' = true | some ts => b' = false ∧ ns = layRow 0 ts ∧ most = depRow ts) →
        (∃ nv, LB W w.heap.size s i bad nv 0 most ∧ ∀ W' b', LB W' w.heap.size s (i + 1) b' nv 0 most → Fr [w.heap.size] W W' → b' = ((bad || !bNx s i 93) || !decide (i + 1 = s.size)) → ReadPost s w (.returned (.pointer (some ⟨w.heap.size, 0, none⟩))) W') := by
      intro W i bad ns most _ hp hf hm
      obtain ⟨nv, hB, hN⟩ := hp
      exact ⟨nv, hB, fun W' b' hB' hF hb' => ⟨i + 1, b', ns, most, rfl, ⟨nv, hB', hN.frame hF (fun g hg hm => by have := (hN.lt hg).1; simp at hm; omega) (fun k hk hh => by have := hh.1; simp at hk; omega)⟩, hf.trans_new hF (by simp), hm b' hb'⟩⟩
    have HFIN := Lib.hid hfin
    clear hfin
    generalize hbd : ((false || !bNx s 0 42) || !bNx s (0 + 1) 91) = bd at *
    have HBD := Lib.hid hbd
    clear hbd hb1 hf1
    go_wp2_with fail
    cases bd with
    | true =>
      have E := Lib.hid (show procOf s = none by
        have := HBD.out
        unfold procOf
        rw [if_neg]
        rintro ⟨_, h1, h2⟩
        simp [bNx, h1, h2] at this)
      refine (lrow_bad s w.heap.size (fun k => w.heap.size < k) 2 [] 0 0 _ hp2 (fun k hk => by omega) (by simp) (by simp)).mono ?_
      rintro e w3 ⟨idx, rfl, hp3, hf3⟩
      have hfr3 := hf3.below hfr2 (Nat.le_refl _) (fun k hk => by omega)
      · obtain ⟨nv, hB, hE⟩ := HFIN.out _ 2 true _ 0 (by omega) hp3 hfr3 (by
          intro b' hb'
          rw [E.out]; simp [hb'])
        have HE := Lib.hid hE
        clear hE
        by_cases hc : 2 + 1 = s.size
        · have hc' : (((2 : Nat) : Int) + 1 != (s.size : Int)) = false := by simp; omega
          go_wp2_with (go_at_call 33; refine (ltake_any w.heap.size s 2 true nv 0 0 93 _ rfl _ hB (by omega) (by omega)).mono ?_; rintro e w4 ⟨rfl, hb4, hf4⟩; have hc1 := hb4.cell 1 rfl)
          go_ret
          exact HE.out _ _ hb4 hf4 (by simp [hc])
        · have hc' : (((2 : Nat) : Int) + 1 != (s.size : Int)) = true := by simp; omega
          go_wp2_with (go_at_call 33; refine (ltake_any w.heap.size s 2 true nv 0 0 93 _ rfl _ hB (by omega) (by omega)).mono ?_; rintro e w4 ⟨rfl, hb4, hf4⟩; have hc1 := hb4.cell 1 rfl; have hc2 := hb4.cell 2 rfl; have hg2 := hb4.free 2)
          go_ret
          exact HE.out _ true (hb4.set 2 _) (hf4.setCell (by simp) _) (by simp [hc])
    | false =>
      have hnx : nx s 0 = 42 ∧ nx s 1 = 91 := by
        have := HBD.out
        simpa [bNx] using this
      have hsz2 : 2 ≤ s.size := by have := nx_lt2 (s := s) (j := 1) (by rw [hnx.2]; decide); omega
      have HNX := Lib.hid hnx
      clear hnx
      refine (lrow_any 1000 s w.heap.size (fun k => w.heap.size < k) 2 [] 0 0 _ hp2 (fun k hk => by omega) (by simp) hsz2 (by omega) (by omega) (by simp) (by omega) (by omega) (by omega)).mono ?_
      rintro e w3 ⟨idx, i', bad', ns', most', rfl, q1, hp3, hf3, q4, q5, q6, q7, q8, q9⟩
      have hfr3 := hf3.below hfr2 (Nat.le_refl _) (fun k hk => by omega)
      · obtain ⟨nv, hB, hE⟩ := HFIN.out _ i' bad' ns' most' (by omega) hp3 hfr3 (by
          intro b' hb'
          have h9 := q9
          unfold procOf
          rw [if_pos ⟨hz, HNX.out.1, HNX.out.2⟩]
          cases hpr : parseRow (nx s) 1000 2 with
          | none => rw [hpr] at h9; simp only [ROut] at h9; simp [hb', h9]
          | some y =>
            obtain ⟨ts, j⟩ := y
            rw [hpr] at h9
            obtain ⟨e1, e2, e3, e4, e5⟩ := h9
            subst e1; subst e2
            by_cases h93 : nx s i' = 93 ∧ i' + 1 = s.size
            · simp only [h93, and_self, if_pos]
              refine ⟨by rw [hb']; simp [bNx, h93.1, h93.2], by simpa using e3, by simpa using e4⟩
            · simp only [h93, if_neg, not_false_eq_true]
              rw [hb']
              by_cases hc1 : nx s i' = 93
              · have hc2 : ¬ (i' + 1 = s.size) := fun h => h93 ⟨hc1, h⟩
                simp [bNx, hc1, hc2]
              · simp [bNx, hc1])
        have HE := Lib.hid hE
        clear hE
        by_cases hc : i' + 1 = s.size
        · have hc' : (((i' : Nat) : Int) + 1 != (s.size : Int)) = false := by simp; omega
          go_wp2_with (go_at_call 33; refine (ltake_any w.heap.size s i' bad' nv 0 most' 93 _ rfl _ hB (by omega) (by omega)).mono ?_; rintro e w4 ⟨rfl, hb4, hf4⟩; have hc1 := hb4.cell 1 rfl)
          go_ret
          exact HE.out _ _ hb4 hf4 (by simp [hc])
        · have hc' : (((i' : Nat) : Int) + 1 != (s.size : Int)) = true := by simp; omega
          go_wp2_with (go_at_call 33; refine (ltake_any w.heap.size s i' bad' nv 0 most' 93 _ rfl _ hB (by omega) (by omega)).mono ?_; rintro e w4 ⟨rfl, hb4, hf4⟩; have hc1 := hb4.cell 1 rfl; have hc2 := hb4.cell 2 rfl; have hg2 := hb4.free 2)
          go_ret
          exact HE.out _ true (hb4.set 2 _) (hf4.setCell (by simp) _) (by simp [hc])
  · have hz' : decide ((200 : Int) < (s.size : Int)) = true := by simp; omega
    have HB0 := Lib.hid hb0
    have E := Lib.hid (show procOf s = none by unfold procOf; rw [if_neg (fun h => hz h.1)])
    clear hb0
    go_enter Try.func22, Try.ntmps22
    go_wp2_with fail
    go_ret
    exact ⟨0, true, [], 0, rfl, ⟨_, Blk.new w _ _, Own.nil _ _ _ _ _⟩, (Fr.refl [] w).alloc _, by rw [E.out]⟩
end Go.Proofs.Ytkfpoagjlaldgaa

