/- ProcessEdges on both sides, and the law's body. -/
import Derived.Test.YtklggjbmkgdkpaaWords
import Derived.Test.YtklggjbmkgdkpaaLawA
set_option linter.unusedVariables false
namespace Go.Proofs.Ytklggjbmkgdkpaa
open Go.RowKit

def WordsOk (l : List ByteArray) (b : Bool) (w : World) (e : Ending) (w' : World) : Prop := ∃ v, e = .returned (.tuple #[v, .bool b]) ∧ OwnS w.heap.size w' v l ∧ Fr [] w w'

theorem alloc3_new (w : World) (a b c : Obj) : (((w.alloc a).alloc b).alloc c).heap[w.heap.size + 2]? = some c := by
  have := heap_alloc_new ((w.alloc a).alloc b) c
  rwa [show ((w.alloc a).alloc b).heap.size = w.heap.size + 2 by simp] at this
mutual
theorem lay_len (t : Tr) (h : okT t) (base : Nat) : (lay base t).length ≤ 6 * cntT t := by
  cases t with
  | edge n m => simp only [lay, layEdge, cntT]; split <;> simp
  | par rows =>
    have := layRows_len2 rows h.2 base
    have : rows.length ≠ 0 := fun h0 => h.1 (List.eq_nil_of_length_eq_zero h0)
    simp only [lay, cntT, List.length_append, List.length_cons, List.length_nil]; omega
theorem layParts_len2 (r : List Tr) (h : okRow r) (base : Nat) : (layParts base r).1.length ≤ 6 * cntRow r := by
  cases r with
  | nil => simp [layParts]
  | cons t ts =>
    have h1 := lay_len t h.1 base
    have h2 := layParts_len2 ts h.2 (base + (lay base t).length)
    simp only [layParts, cntRow, List.length_append]; omega
theorem layRows_len2 (rs : List (List Tr)) (h : okRows rs) (base : Nat) : (layRows base rs).1.length + rs.length ≤ 6 * cntRows rs := by
  cases rs with
  | nil => simp [layRows]
  | cons r rs =>
    have h1 := layParts_len2 r h.1.2 base
    have h2 := layRows_len2 rs h.2 (base + (layRow base r).length)
    rw [layRows_cons]
    simp only [layRow, cntRows, List.length_append, List.length_cons, List.length_nil] at h2 ⊢; omega
end
theorem layRow_len (r : List Tr) (h : okRow r) (base : Nat) : (layRow base r).length ≤ 6 * cntRow r + 1 := by
  have := layParts_len2 r h base
  simp only [layRow, List.length_append, List.length_cons, List.length_nil]; omega

theorem sEdges_any (s : ByteArray) (w : World) (hs : s.size ≤ 9223372036854775807) : Calls Try.prog 13 #[.string s] w (WordsOk (edgesOf s) (procOf s).isSome w) := by
  have hE : edgesOf s = match procOf s with | none => [] | some ts => (partsRow (expandRow ts)).map word := rfl
  cases hp : procOf s with
  | none =>
    rw [hp] at hE
    have HP := Lib.hid hp
    have HE := Lib.hid hE
    clear hp hE
    go_enter Try.func13, Try.ntmps13
    go_wp2_with (go_at_call 29; refine (read_any s _ hs).mono ?_; rintro e w2 ⟨i, bad, ns, most, rfl, ⟨nv, hb, hN⟩, hf, hm⟩; rw [HP.out] at hm; subst hm; have hc2 := hb.cell 2 rfl; clear hN)
    go_ret2
    exact ⟨_, rfl, by rw [HE.out]; exact Own.nil _ _ _ _ _, hf⟩
  | some ts =>
    rw [hp] at hE
    have hok := procOf_ok hp
    have HW := Lib.hid (layRow_words hok.1 hok.2.1 0)
    have HP := Lib.hid hp
    have HE := Lib.hid hE
    have hln : (layRow 0 ts).length ≤ 100000 := by
      have := layRow_len ts hok.2.1 0
      have := hok.2.2
      omega
    clear hp hE hok
    go_enter Try.func13, Try.ntmps13
    go_wp2_with (first
      | (go_at_call 29; refine (read_any s _ hs).mono ?_; rintro e w2 ⟨i, bad, ns, most, rfl, hlp, hf, hm⟩; rw [HP.out] at hm; obtain ⟨rfl, rfl, rfl⟩ := hm; have HLP := Lib.hid hlp; obtain ⟨nv, hb, hN⟩ := hlp; have hc2 := hb.cell 2 rfl; clear hN)
      | (go_at_call 32; refine (lpWords_any _ _ _ _ _ _ _ _ _ HLP.out hln).mono ?_; rintro e w3 ⟨v, rfl, hO, hf3⟩))
    go_ret2
    refine ⟨v, rfl, ?_, hf.trans hf3⟩
    rw [HE.out, ← HW.out]
    exact hO.mono (fun k hk => Nat.le_trans hf.size hk) (fun _ h => h)

set_option maxHeartbeats 1000000 in
set_option maxRecDepth 100000 in
theorem iEdges_any (s : ByteArray) (w : World) (hs : s.size ≤ 9223372036854775807) : Calls Try.prog 14 #[.string s] w (WordsOk (edgesOf s) (procOf s).isSome w) := by
  have hE : edgesOf s = match procOf s with | none => [] | some ts => (partsRow (expandRow ts)).map word := rfl
  cases hp : procOf s with
  | none =>
    rw [hp] at hE
    have HP := Lib.hid hp
    have HE := Lib.hid hE
    clear hp hE
    go_enter Try.func14, Try.ntmps14
    go_wp2_with (go_at_call 30; refine (rowOf_any s _ hs).mono ?_; rintro e w2 ⟨v, hf, hm⟩; rw [HP.out] at hm; obtain ⟨rfl, rfl⟩ := hm)
    go_ret2
    exact ⟨_, rfl, by rw [HE.out]; exact Own.nil _ _ _ _ _, hf⟩
  | some ts =>
    rw [hp] at hE
    obtain ⟨k1, k2, k3⟩ := procOf_ok hp
    have hgd := partsRow_good ts k2
    have K2 := Lib.hid k2
    have HP := Lib.hid hp
    have HE := Lib.hid hE
    have hl : (partsRow (expandRow ts)).length ≤ 800 := by omega
    have HG := Lib.hid hgd.2
    clear hp hE k1 k2 hgd
    generalize hLL : partsRow (expandRow ts) = LL at *
    have HLL := Lib.hid hLL
    clear hLL
    go_enter Try.func14, Try.ntmps14
    go_wp2_with (first
      | (go_at_call 30; refine (rowOf_any s _ hs).mono ?_; rintro e w2 ⟨v, hf, hm⟩; rw [HP.out] at hm; obtain ⟨rfl, hsl⟩ := hm)
      | (go_at_call 34; refine (expanded_any _ ts v _ (Nat.lt_succ_self _) K2.out (by omega) ((hsl.frame ((Fr.refl [] _).alloc _) (by simp)).mono (fun _ _ => trivial))).mono ?_; rintro e w3 ⟨v3, rfl, hsl3, hf3⟩)
      | (go_at_call 33; refine (partsOf_any _ (expandRow ts) v3 _ (Nat.lt_succ_self _) (by rw [HLL.out]; omega) (fun p hp => by rw [HLL.out] at hp; rcases (HG.out p hp).1 with h | h <;> rw [h] <;> decide) (hsl3.mono (fun _ _ => trivial))).mono ?_; rw [HLL.out]; rintro e w4 ⟨v4, rfl, hsl4, hf4⟩; obtain ⟨a4, cap4, rfl, _, _, hsl4⟩ := hsl4.form))
    have H4 := Lib.hid hsl4
    have hfr4 : Fr [] w w4 := ((hf.alloc _).trans hf3).trans hf4
    have hws := hf.size
    have hww : w2.heap.size < w4.heap.size := by have := hf3.size; have := hf4.size; simp at *; omega
    have hw3 : w2.heap.size < w3.heap.size := by have := hf3.size; simp at *; omega
    have hO0 : Own (fun g => g = w2.heap.size ∨ w4.heap.size ≤ g) (fun _ => False) 9 Ty.str w4 (.slice (some ⟨w2.heap.size, 0, none⟩) 0 0) [] := Own.empty (((hf3.trans hf4).block _ (by simp) (by simp)).trans (heap_alloc_new w2 _)) (.inl rfl)
    have HO0 := Lib.hid hO0
    clear hsl hsl3 hsl4 hO0 hf hf3 hf4
    go_loopg [6, 21] LL.length (fun mm v6 v21 wr => ∃ k, mm = LL.length - k ∧ k ≤ LL.length ∧ v21 = .int .i64 k ∧ Own (fun g => g = w2.heap.size ∨ w4.heap.size ≤ g) (fun _ => False) 9 Ty.str wr v6 ((LL.take k).map word) ∧ Fr [w2.heap.size] w4 wr)
    case atStart => exact ⟨0, rfl, Nat.zero_le _, rfl, HO0.out, Fr.refl _ _⟩
    case round =>
      obtain ⟨k, rfl, hk, rfl, hO, hfr2⟩ := hrel
      obtain ⟨wo, rfl⟩ : ∃ wo : World, wo = wr := ⟨_, rfl⟩
      by_cases hlt : k < LL.length
      · obtain ⟨x, hx⟩ : ∃ x, LL[k]? = some x := ⟨_, List.getElem?_eq_getElem hlt⟩
        obtain ⟨g, off, cs, rfl, _, _, ⟨rfl, hws1⟩, hcells⟩ := (H4.out.frame hfr2 (fun q hq hh => by simp at hq; omega)).get hx
        have hgx := HG.out x (List.mem_of_getElem? hx)
        have HTK := Lib.hid (show (LL.take (k + 1)).map word = (LL.take k).map word ++ [word x] by rw [List.take_add_one, hx]; simp)
        have hl2 : ((LL.take k).map word).length + 1 ≤ 801 := by simp only [List.length_map, List.length_take]; omega
        obtain ⟨nm, m⟩ := x
        have hn7 : nm.size ≤ 7 := hgx.2
        clear hx hgx
        obtain ⟨a0, cap0, rfl⟩ := hO.form
        generalize hL : (LL.take k).map word = L at hO hl2 HTK
        have HL := Lib.hid hL
        clear hL
        have c0 : wo.cell? ⟨g, off + k * 3, none⟩ = some (.string nm) := hcells 0 _ rfl
        have c1' : wo.cell? ⟨g, off + k * 3 + 1, none⟩ = some (.int .u8 (m.toNat : Int)) := hcells 1 _ rfl
        have c2 : wo.cell? ⟨g, off + k * 3 + 2, none⟩ = some (.slice none 0 0) := hcells 2 _ rfl
        have hP : Blk (wo.alloc (.cells #[.string nm, .int .u8 (m.toNat : Int), .slice none 0 0] 54)) wo.heap.size 54 [.string nm, .int .u8 (m.toNat : Int), .slice none 0 0] := Blk.new wo _ _
        have hbm : (bs [m]).size = 1 := rfl
        have hcv2 := Try.conv1 (wo.alloc (.cells #[.string nm, .int .u8 (m.toNat : Int), .slice none 0 0] 54)) m
        rw [show (wo.alloc (.cells #[.string nm, .int .u8 (m.toNat : Int), .slice none 0 0] 54)).heap.size = wo.heap.size + 1 by simp] at hcv2
        clear hcells
        go_wp2_with (at_builtin; refine wpList_append_Own (P := Try.prog) (by rfl) (.tmp 25) (.tmp 33) 25 (by rfl) (T := Ty.str) (l := L) (y := nm ++ bs [m]) (v := .slice a0 L.length cap0) (tb := wo.heap.size + 2) (c := 1) (cs := [.string (nm ++ bs [m])]) Try.inf_string (by rfl) (hO.frame ((((Fr.refl [] wo).alloc _).alloc _).alloc _) (by simp) (by simp)) (by rfl) (by exact alloc3_new _ _ _ _) ⟨rfl, by rw [ByteArray.size_append]; simp only [maxLen]; omega⟩ ?_ ?o3 ?o4 ?o5; intro p cap w5 hO5 hf5 hat)
        case o3 => have := hfr2.size; first | omega | exact .inr (by simp; omega)
        case o4 => simp only [maxLen]; omega
        case o5 => omega
        · have hA : Fr [] wo (((wo.alloc (.cells #[.string nm, .int .u8 (m.toNat : Int), .slice none 0 0] 54)).alloc (.cells #[.int .u8 (m.toNat : Int)] 5)).alloc (.cells #[.string (nm ++ bs [m])] 9)) := (((Fr.refl [] wo).alloc _).alloc _).alloc _
          go_roundg (LL.length - (k + 1))
          case rel => exact ⟨k + 1, rfl, by omega, by go_num, by rw [HTK.out]; exact hO5, (hfr2.trans (hA.mono (by simp))).trans_new hf5 (fun q hq => by have := (hO.lt (g := q) (by simpa using hq)).1; simp; omega)⟩
          case measure => omega
      · obtain rfl : k = LL.length := by omega
        go_wp2
        go_ret2
        refine ⟨_, rfl, ?_, hfr4.trans_new hfr2 (fun q hq => by simp at hq; omega)⟩
        rw [HE.out, HLL.out]
        rw [List.take_length] at hO
        exact hO.mono (fun q hq => by omega) (fun _ h => h)
end Go.Proofs.Ytklggjbmkgdkpaa
