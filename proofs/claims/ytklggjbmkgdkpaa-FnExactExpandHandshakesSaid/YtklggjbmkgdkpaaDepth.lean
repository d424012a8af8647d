/- The law FnExactParallelDepth: for every string the program's ParallelDepth returns what the reference's returns. -/
import Derived.Test.YtklggjbmkgdkpaaLawA
namespace Go.Proofs.Ytklggjbmkgdkpaa
set_option linter.unusedVariables false
open Go.ChangeShapes Go.WideShapes Go.ChangeAt Go.RowKit
open Go.ChangeMaps (open_string shut_string)

theorem dep_le_fuel (c : Nat → UInt8) : ∀ f i,
    (∀ t j, parsePart c f i = some (t, j) → dep t ≤ f) ∧ (∀ t j, parseRow c f i = some (t, j) → depRow t ≤ f) ∧ (∀ t j, parseTail c f i = some (t, j) → depRow t ≤ f) ∧ (∀ t j, parseMore c f i = some (t, j) → depRows t ≤ f + 1) := by
  intro f
  induction f with
  | zero => intro i; simp [parsePart, parseRow, parseTail, parseMore]
  | succ f ih =>
    intro i
    refine ⟨fun t j h => ?_, fun t j h => ?_, fun t j h => ?_, fun t j h => ?_⟩
    · simp only [parsePart] at h
      split at h
      · cases hp : parseRow c f (i + 1) with
        | none => rw [hp] at h; cases h
        | some y =>
          obtain ⟨r, k⟩ := y
          rw [hp] at h
          simp only at h
          cases hq : parseMore c f k with
          | none => rw [hq] at h; cases h
          | some z =>
            obtain ⟨rs, k2⟩ := z
            rw [hq] at h
            simp only at h
            have h1 := (ih (i + 1)).2.1 _ _ hp
            have h2 := (ih k).2.2.2 _ _ hq
            split at h
            · cases h
            · split at h
              · cases h; simp only [dep, depRows]; omega
              · cases h
      · split at h
        · cases h; simp [dep]
        · cases h
    · simp only [parseRow] at h
      cases hp : parsePart c f i with
      | none => rw [hp] at h; cases h
      | some y =>
        obtain ⟨r, k⟩ := y
        rw [hp] at h
        simp only at h
        cases hq : parseTail c f k with
        | none => rw [hq] at h; cases h
        | some z =>
          obtain ⟨rs, k2⟩ := z
          rw [hq] at h
          cases h
          have h1 := (ih i).1 _ _ hp
          have h2 := (ih k).2.2.1 _ _ hq
          simp only [depRow]; omega
    · simp only [parseTail] at h
      split at h
      · cases hp : parsePart c f (i + 1) with
        | none => rw [hp] at h; cases h
        | some y =>
          obtain ⟨r, k⟩ := y
          rw [hp] at h
          simp only at h
          cases hq : parseTail c f k with
          | none => rw [hq] at h; cases h
          | some z =>
            obtain ⟨rs, k2⟩ := z
            rw [hq] at h
            cases h
            have h1 := (ih (i + 1)).1 _ _ hp
            have h2 := (ih k).2.2.1 _ _ hq
            simp only [depRow]; omega
      · cases h; simp [depRow]
    · simp only [parseMore] at h
      split at h
      · cases hp : parseRow c f (i + 1) with
        | none => rw [hp] at h; cases h
        | some y =>
          obtain ⟨r, k⟩ := y
          rw [hp] at h
          simp only at h
          cases hq : parseMore c f k with
          | none => rw [hq] at h; cases h
          | some z =>
            obtain ⟨rs, k2⟩ := z
            rw [hq] at h
            cases h
            have h1 := (ih (i + 1)).2.1 _ _ hp
            have h2 := (ih k).2.2.2 _ _ hq
            simp only [depRows]; omega
      · cases h; simp [depRows]
theorem procOf_parse {s : ByteArray} {ts : List Tr} (h : procOf s = some ts) : s.size ≤ 200 ∧ ∃ j, parseRow (nx s) 1000 2 = some (ts, j) := by
  unfold procOf at h
  split at h
  · rename_i h0
    cases hp : parseRow (nx s) 1000 2 with
    | none => rw [hp] at h; cases h
    | some y =>
      obtain ⟨r, k⟩ := y
      rw [hp] at h
      simp only at h
      split at h
      · cases h; exact ⟨h0.1, k, rfl⟩
      · cases h
  · cases h
theorem procOf_dep {s : ByteArray} {ts : List Tr} (h : procOf s = some ts) : depRow ts ≤ 1000 := by
  obtain ⟨_, j, hj⟩ := procOf_parse h
  exact (dep_le_fuel _ _ _).2.1 _ _ hj

def rowsOf : Tr → List (List Tr)
  | .edge _ _ => []
  | .par rows => rows
theorem dep_rowsOf (t : Tr) : dep t = depRows (rowsOf t) := by cases t <;> simp [dep, rowsOf, depRows]
theorem tr_rows {K : Nat → Prop} {w : World} {cs : List Value} {t : Tr} (h : tr.rep K w cs t) :
    ∃ n m a c, cs = [.string n, .int .u8 m, .slice a (rowsOf t).length c] ∧ SL K 46 rowT w (.slice a (rowsOf t).length c) (rowsOf t) := by
  cases t with
  | edge n m => obtain ⟨rfl, _⟩ := tr_edge.1 h; exact ⟨n, _, none, 0, rfl, SL.nil _ _ _ _⟩
  | par rows =>
    obtain ⟨v, rfl, hs⟩ := tr_par.1 h
    obtain ⟨a, c, rfl, _, _, hs⟩ := hs.form
    exact ⟨_, _, a, c, rfl, hs⟩

theorem depRow_take {ts : List Tr} {k : Nat} {t : Tr} (h : ts[k]? = some t) : depRow (ts.take (k + 1)) = max (depRow (ts.take k)) (dep t) := by
  rw [List.take_add_one, h]; exact depRow_append _ _
theorem depRows_take {rs : List (List Tr)} {k : Nat} {r : List Tr} (h : rs[k]? = some r) : depRows (rs.take (k + 1)) = max (depRows (rs.take k)) (1 + depRow r) := by
  rw [List.take_add_one, h]; exact depRows_append _ _
theorem depRow_take_le (ts : List Tr) (k : Nat) : depRow (ts.take k) ≤ depRow ts := by
  induction ts generalizing k with
  | nil => simp
  | cons a ts ih =>
    cases k with
    | zero => simp [depRow]
    | succ k => simp only [List.take_succ_cons, depRow]; have := ih k; omega
theorem depRows_take_le (ts : List (List Tr)) (k : Nat) : depRows (ts.take k) ≤ depRows ts := by
  induction ts generalizing k with
  | nil => simp
  | cons a ts ih =>
    cases k with
    | zero => simp [depRows]
    | succ k => simp only [List.take_succ_cons, depRows]; have := ih k; omega

set_option maxHeartbeats 1000000 in
theorem depthOf_any : ∀ (n : Nat) (ts : List Tr) (v : Value) (w : World), depRow ts < n → depRow ts ≤ 1000 → SL (fun _ => True) 54 tr w v ts → Calls Try.prog 31 #[v] w (RetF (.int .i64 (depRow ts : Nat)) w) := by
  intro n
  induction n with
  | zero =>
    intro ts v w hn hb hsl
    omega
  | succ n ih =>
    intro ts v w hn hb hsl
    have IH := Lib.hid ih
    clear ih
    obtain ⟨a, cap, rfl, hlc, hcm, hsl⟩ := hsl.form
    have hml : ts.length ≤ 9223372036854775807 := by simp only [maxLen] at hcm; omega
    have HSL := Lib.hid hsl
    clear hsl hlc hcm
    go_enter Try.func31, Try.ntmps31
    go_wp2
    go_loopg [3, 10] ts.length (fun mm v3 v10 wr => ∃ k, mm = ts.length - k ∧ k ≤ ts.length ∧ v10 = .int .i64 k ∧ v3 = .int .i64 (depRow (ts.take k) : Nat) ∧ Fr [] w wr)
    case atStart => exact ⟨0, rfl, Nat.zero_le _, rfl, by simp [depRow], Fr.refl _ _⟩
    case round =>
      obtain ⟨k, rfl, hk, rfl, rfl, hfr⟩ := hrel
      by_cases hlt : k < ts.length
      · obtain ⟨t, ht⟩ : ∃ t, ts[k]? = some t := ⟨_, List.getElem?_eq_getElem hlt⟩
        obtain ⟨g, off, cs, rfl, _, _, hrep, hcells⟩ := (HSL.out.frame hfr (by simp)).get ht
        obtain ⟨nm, m, a1, c1, rfl, hrows⟩ := tr_rows hrep
        have c0 : wr.cell? ⟨g, off + k * 3, none⟩ = some (.string nm) := hcells 0 _ rfl
        have c1' : wr.cell? ⟨g, off + k * 3 + 1, none⟩ = some (.int .u8 m) := hcells 1 _ rfl
        have c2 : wr.cell? ⟨g, off + k * 3 + 2, none⟩ = some (.slice a1 (rowsOf t).length c1) := hcells 2 _ rfl
        obtain ⟨wo, rfl⟩ : ∃ wo : World, wo = wr := ⟨_, rfl⟩
        have hdt : dep t ≤ depRow ts := dep_le_row (List.mem_of_getElem? ht)
        have hrl : (rowsOf t).length ≤ 9223372036854775807 := by
          obtain ⟨_, _, hv, h1, h2, _⟩ := hrows
          simp only [Value.slice.injEq] at hv
          simp only [maxLen] at h2; omega
        have HT := Lib.hid ht
        have HR := Lib.hid hrows
        have hd0 := depRow_take_le ts k
        clear hrep hcells ht hrows
        go_wp2
        go_loopg [3, 7, 17] (rowsOf t).length (fun mm v3 _ v17 wr => ∃ q, mm = (rowsOf t).length - q ∧ q ≤ (rowsOf t).length ∧ v17 = .int .i64 q ∧ v3 = .int .i64 ((max (depRow (ts.take k)) (depRows ((rowsOf t).take q)) : Nat) : Int) ∧ Fr [] wo wr)
        case atStart => exact ⟨0, rfl, Nat.zero_le _, rfl, by simp [depRows], (Fr.refl _ _).alloc _⟩
        case round =>
          obtain ⟨q, rfl, hq, rfl, rfl, hfr2⟩ := hrel
          by_cases hlq : q < (rowsOf t).length
          · obtain ⟨r, hr⟩ : ∃ r, (rowsOf t)[q]? = some r := ⟨_, List.getElem?_eq_getElem hlq⟩
            obtain ⟨g2, off2, cs2, rfl, _, _, ⟨v2, rfl, hsl2⟩, hcells2⟩ := (HR.out.frame hfr2 (by simp)).get hr
            obtain ⟨a3, c3, rfl, _, _, hsl2⟩ := hsl2.form
            have d0 : wr.cell? ⟨g2, off2 + q, none⟩ = some (.slice a3 r.length c3) := by
              have h0 : wr.cell? ⟨g2, off2 + q * 1 + 0, none⟩ = some (.slice a3 r.length c3) := hcells2 0 _ rfl
              rwa [Nat.mul_one, Nat.add_zero] at h0
            have hdr := dep_le_rows (List.mem_of_getElem? hr)
            have hdt2 := dep_rowsOf t
            have hq0 := depRows_take_le (rowsOf t) q
            have HD := Lib.hid (depRows_take hr)
            clear hcells2 hr
            go_wp2_with (go_at_call 31; refine (IH.out r _ _ (by omega) (by omega) hsl2).mono ?_; rintro e w2 ⟨rfl, hf2⟩)
            all_goals
              go_roundg ((rowsOf t).length - (q + 1))
              case rel => exact ⟨q + 1, rfl, by omega, by go_num, by rw [HD.out]; congr 1; (try split) <;> omega, hfr2.trans hf2⟩
              case measure => omega
          · obtain rfl : q = (rowsOf t).length := by omega
            have HD := Lib.hid (depRow_take HT.out)
            have HDD := Lib.hid (dep_rowsOf t)
            go_wp2
            go_roundg (ts.length - (k + 1))
            case rel => exact ⟨k + 1, rfl, by omega, by go_num, by rw [HD.out, HDD.out, List.take_length], hfr.trans hfr2⟩
            case measure => omega
      · obtain rfl : k = ts.length := by omega
        go_wp2
        go_ret
        exact ⟨by rw [List.take_length]; rfl, hfr⟩

theorem sDepth_any (s : ByteArray) (w : World) (hs : s.size ≤ 9223372036854775807) : Calls Try.prog 11 #[.string s] w
    (RetF (match procOf s with | none => .tuple #[.int .i64 0, .bool false] | some ts => .tuple #[.int .i64 (depRow ts : Nat), .bool true]) w) := by
  cases hp : procOf s with
  | none =>
    have HP := Lib.hid hp
    clear hp
    go_enter Try.func11, Try.ntmps11
    go_wp2_with (go_at_call 29; refine (read_any s _ hs).mono ?_; rintro e w2 ⟨i, bad, ns, most, rfl, ⟨nv, hb, hN⟩, hf, hm⟩; rw [HP.out] at hm; simp only at hm; subst hm; have hc2 := hb.cell 2 rfl; clear hN)
    go_ret2
    exact ⟨rfl, hf⟩
  | some ts =>
    have HP := Lib.hid hp
    clear hp
    go_enter Try.func11, Try.ntmps11
    go_wp2_with (go_at_call 29; refine (read_any s _ hs).mono ?_; rintro e w2 ⟨i, bad, ns, most, rfl, ⟨nv, hb, hN⟩, hf, hm⟩; rw [HP.out] at hm; obtain ⟨rfl, rfl, rfl⟩ := hm; have hc2 := hb.cell 2 rfl; have hc5 := hb.cell 5 rfl; clear hN)
    go_ret2
    exact ⟨rfl, hf⟩

theorem iDepth_any (s : ByteArray) (w : World) (hs : s.size ≤ 9223372036854775807) : Calls Try.prog 12 #[.string s] w
    (RetF (match procOf s with | none => .tuple #[.int .i64 0, .bool false] | some ts => .tuple #[.int .i64 (depRow ts : Nat), .bool true]) w) := by
  cases hp : procOf s with
  | none =>
    have HP := Lib.hid hp
    clear hp
    go_enter Try.func12, Try.ntmps12
    go_wp2_with (first
      | (go_at_call 30; refine (rowOf_any s _ hs).mono ?_; rintro e w2 ⟨v, hf, hm⟩; rw [HP.out] at hm; obtain ⟨rfl, rfl⟩ := hm)
      | (go_at_call 31; refine (depthOf_any 1 [] (.slice none 0 0) _ (by simp [depRow]) (by simp [depRow]) (SL.nil _ _ _ _)).mono ?_; rintro e w3 ⟨rfl, hf3⟩))
    go_ret2
    exact ⟨rfl, hf.trans hf3⟩
  | some ts =>
    have HP := Lib.hid hp
    have hd := procOf_dep hp
    clear hp
    go_enter Try.func12, Try.ntmps12
    go_wp2_with (first
      | (go_at_call 30; refine (rowOf_any s _ hs).mono ?_; rintro e w2 ⟨v, hf, hm⟩; rw [HP.out] at hm; obtain ⟨rfl, hsl⟩ := hm)
      | (go_at_call 31; refine (depthOf_any (depRow ts + 1) ts v _ (by omega) hd (hsl.mono (fun _ _ => trivial))).mono ?_; rintro e w3 ⟨rfl, hf3⟩))
    go_ret2
    exact ⟨rfl, hf.trans hf3⟩

theorem lawB_any (s : ByteArray) (w : World) (hs : s.size ≤ 9223372036854775807) : Calls Try.prog 4 #[.string s] w (RetF (.bool true) w) := by
  by_cases hz : s.size ≤ 1048576
  · have hz' : decide ((1048576 : Int) < (s.size : Int)) = false := by simp; omega
    have h1 := sDepth_any s
    have h2 := iDepth_any s
    cases hp : procOf s with
    | none =>
      rw [hp] at h1 h2
      have H1 := Lib.hid h1
      have H2 := Lib.hid h2
      clear h1 h2 hp
      go_enter Try.func4, Try.ntmps4
      go_wp2_with (first
        | (go_at_call 11; refine (H1.out _ hs).mono ?_; rintro e w2 ⟨rfl, hf2⟩)
        | (go_at_call 12; refine (H2.out _ hs).mono ?_; rintro e w3 ⟨rfl, hf3⟩))
      go_ret
      exact ⟨rfl, hf2.trans hf3⟩
    | some ts =>
      rw [hp] at h1 h2
      have H1 := Lib.hid h1
      have H2 := Lib.hid h2
      clear h1 h2 hp
      go_enter Try.func4, Try.ntmps4
      go_wp2_with (first
        | (go_at_call 11; refine (H1.out _ hs).mono ?_; rintro e w2 ⟨rfl, hf2⟩)
        | (go_at_call 12; refine (H2.out _ hs).mono ?_; rintro e w3 ⟨rfl, hf3⟩))
      go_ret
      exact ⟨rfl, hf2.trans hf3⟩
  · have hz' : decide ((1048576 : Int) < (s.size : Int)) = true := by simp; omega
    go_enter Try.func4, Try.ntmps4
    go_wp2_with fail
    go_ret
    exact ⟨rfl, Fr.refl _ _⟩

end Go.Proofs.Ytklggjbmkgdkpaa
