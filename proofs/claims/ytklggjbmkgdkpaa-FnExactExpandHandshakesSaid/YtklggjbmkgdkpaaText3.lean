/- The walk of rowText. -/
import Derived.Test.YtklggjbmkgdkpaaText2
import Derived.Test.YtklggjbmkgdkpaaEdges2
set_option linter.unusedVariables false
namespace Go.Proofs.Ytklggjbmkgdkpaa
open Go.RowKit

theorem join_any (l : List ByteArray) (v : Value) (c : UInt8) (w : World) (h : SL (fun _ => True) 9 Ty.str w v l) (hs : (jn c l).size ≤ 100000) :
    Calls Try.prog 58 #[v, .string (bs [c])] w (RetF (.string (jn c l)) w) := by
  obtain ⟨a, cap, rfl, hlc, hcm, h⟩ := h.form
  by_cases h0 : l = []
  · subst h0
    exact (Try.strings_Join_none a cap (bs [c]) w).mono fun e w' he => by obtain ⟨rfl, rfl⟩ := he; exact ⟨rfl, Fr.refl _ _⟩
  · have hlen : 0 < l.length := List.length_pos_iff.2 h0
    obtain ⟨g, o, rfl, hc0, _⟩ := h.str_at (i := 0) (List.getElem?_eq_getElem hlen)
    have hlt : g < w.heap.size := by
      have := hc0
      unfold World.cell? at this
      cases hb : w.heap[g]? with
      | none => simp [hb] at this
      | some ob => exact lt_of_block hb
    refine (Try.strings_Join g o cap l (bs [c]) w (fun j x hx => ?_) hlt (by have := jn_len c l; omega) hlc ?_).mono fun e w' he => ?_
    · obtain ⟨g', o', he, hc, _⟩ := h.str_at hx
      cases he
      exact hc
    · have := jn_join c l
      have h2 := congrArg ByteArray.size this
      have : (Lib.join (l.map (·.data.toList)) (bs [c]).data.toList).length = (jn c l).size := by rw [← h2]; simp [ByteArray.size, bs]
      omega
    · obtain ⟨rfl, hb⟩ := he
      exact ⟨congrArg (fun z => Ending.returned (.string z)) (jn_join c l), Fr.of_below hb []⟩

theorem txRow_take {ts : List Tr} {k : Nat} {t : Tr} (h : ts[k]? = some t) : txRow (ts.take (k + 1)) = txRow (ts.take k) ++ [txT t] := by
  rw [List.take_add_one, h]; simp [txRow_append, txRow]
theorem txRows_take {rs : List (List Tr)} {k : Nat} {r : List Tr} (h : rs[k]? = some r) : txRows (rs.take (k + 1)) = txRows (rs.take k) ++ [jn 59 (txRow r)] := by
  rw [List.take_add_one, h]; simp [txRows_append, txRows]
theorem txRow_mem {ts : List Tr} {t : Tr} (h : t ∈ ts) : txT t ∈ txRow ts := by
  induction ts with
  | nil => simp at h
  | cons a ts ih =>
    rcases List.mem_cons.1 h with rfl | h
    · simp [txRow]
    · simp [txRow, ih h]
theorem txRows_mem {rs : List (List Tr)} {r : List Tr} (h : r ∈ rs) : jn 59 (txRow r) ∈ txRows rs := by
  induction rs with
  | nil => simp at h
  | cons a rs ih =>
    rcases List.mem_cons.1 h with rfl | h
    · simp [txRows]
    · simp [txRows, ih h]

set_option maxHeartbeats 4000000 in
set_option maxRecDepth 100000 in
theorem rowText_any : ∀ (n : Nat) (ts : List Tr) (v : Value) (w : World), depRow ts < n → (jn 59 (txRow ts)).size ≤ 100000 → (∀ p, p ∈ partsRow ts → p.2 ≠ 0) → SL (fun _ => True) 54 tr w v ts →
    Calls Try.prog 37 #[v] w (RetF (.string (jn 59 (txRow ts))) w) := by
  intro n
  induction n with
  | zero => intro ts v w hn; omega
  | succ n ih =>
    intro ts v w hn hsz hnz hsl
    have IH := Lib.hid ih
    have HNZ := Lib.hid hnz
    clear ih hnz
    obtain ⟨a, cap, rfl, hlc, hcm, hsl⟩ := hsl.form
    have hml : ts.length ≤ 100001 := by have := jn_len 59 (txRow ts); rw [txRow_len] at this; omega
    have HSL := Lib.hid hsl.bound
    have SZ := Lib.hid hsz
    clear hsl hlc hcm hsz
    go_enter Try.func37, Try.ntmps37
    go_wp2
    go_loopg [3, 13] ts.length (fun mm v3 v13 wr => ∃ k, mm = ts.length - k ∧ k ≤ ts.length ∧ v13 = .int .i64 k ∧ OwnS w.heap.size wr v3 (txRow (ts.take k)) ∧ Fr [] w wr)
    case atStart => exact ⟨0, rfl, Nat.zero_le _, rfl, Own.empty (heap_alloc_new w _) (Nat.le_refl _), (Fr.refl _ _).alloc _⟩
    case round =>
      obtain ⟨k, rfl, hk, rfl, hO, hfr⟩ := hrel
      obtain ⟨wo, rfl⟩ : ∃ wo : World, wo = wr := ⟨_, rfl⟩
      by_cases hlt : k < ts.length
      · obtain ⟨t, ht⟩ : ∃ t, ts[k]? = some t := ⟨_, List.getElem?_eq_getElem hlt⟩
        have htm := List.mem_of_getElem? ht
        obtain ⟨g, off, cs, rfl, _, _, hrep, hcells⟩ := (HSL.out.frame hfr (by simp)).get ht
        have hdt : dep t ≤ depRow ts := dep_le_row htm
        obtain ⟨post, hpost⟩ := partsRow_split ht
        have hpm : ∀ p, p ∈ partsT t → p.2 ≠ 0 := fun p hp => HNZ.out p (by rw [hpost]; simp [hp])
        have hts : (txT t).size ≤ 100000 := Nat.le_trans (jn_mem (txRow_mem htm)) SZ.out
        have HTK := Lib.hid (txRow_take ht)
        have hl2 : (txRow (ts.take k)).length + 1 ≤ 100002 := by rw [txRow_len, List.length_take]; omega
        clear hpost ht htm post
        obtain ⟨a0, cap0, rfl⟩ := hO.form
        generalize hL : txRow (ts.take k) = L at hO hl2 HTK
        have HL := Lib.hid hL
        clear hL
        have hws := hfr.size
        cases t with
        | edge nm m =>
          obtain ⟨rfl, hsz⟩ := tr_edge.1 hrep
          have hm0 : m ≠ 0 := hpm (nm, m) (by simp [partsT])
          have hm0' : ((m.toNat : Int) == 0) = false := by
            simp
            intro h0
            exact hm0 (UInt8.toNat_inj.1 (by simpa using h0))
          have c0 : wo.cell? ⟨g, off + k * 3, none⟩ = some (.string nm) := hcells 0 _ rfl
          have c1' : wo.cell? ⟨g, off + k * 3 + 1, none⟩ = some (.int .u8 (m.toNat : Int)) := hcells 1 _ rfl
          have c2 : wo.cell? ⟨g, off + k * 3 + 2, none⟩ = some (.slice none 0 0) := hcells 2 _ rfl
          have hP : Blk (wo.alloc (.cells #[.string nm, .int .u8 (m.toNat : Int), .slice none 0 0] 54)) wo.heap.size 54 [.string nm, .int .u8 (m.toNat : Int), .slice none 0 0] := Blk.new wo _ _
          have hcv2 := Try.conv1 (wo.alloc (.cells #[.string nm, .int .u8 (m.toNat : Int), .slice none 0 0] 54)) m
          rw [show (wo.alloc (.cells #[.string nm, .int .u8 (m.toNat : Int), .slice none 0 0] 54)).heap.size = wo.heap.size + 1 by simp] at hcv2
          have hbm : (bs [m]).size = 1 := rfl
          have hn7 : nm.size ≤ 100000 := by simp only [txT, ByteArray.size_append] at hts; omega
          have HTK' := Lib.hid (show txRow (ts.take (k + 1)) = L ++ [nm ++ bs [m]] from HTK.out)
          clear hrep hcells hm0 hpm hts hsz HTK
          go_wp2_with (at_builtin; refine wpList_append_Own (P := Try.prog) (by rfl) (.tmp 45) (.tmp 47) 25 (by rfl) (T := Ty.str) (l := L) (y := nm ++ bs [m]) (v := .slice a0 L.length cap0) (tb := wo.heap.size + 2) (c := 1) (cs := [.string (nm ++ bs [m])]) Try.inf_string (by rfl) (hO.flat ((((Fr.refl [] wo).alloc _).alloc _).alloc _)) (by rfl) (by exact alloc3_new _ _ _ _) ⟨rfl, by rw [ByteArray.size_append]; simp only [maxLen]; omega⟩ ?_ ?o3 ?o4 ?o5; intro p cap w5 hO5 hf5 hat)
          case o3 => have := hfr.size; simp; omega
          case o4 => simp only [maxLen]; omega
          case o5 => omega
          · have hA : Fr [] wo (((wo.alloc (.cells #[.string nm, .int .u8 (m.toNat : Int), .slice none 0 0] 54)).alloc (.cells #[.int .u8 (m.toNat : Int)] 5)).alloc (.cells #[.string (nm ++ bs [m])] 9)) := (((Fr.refl [] wo).alloc _).alloc _).alloc _
            go_roundg (ts.length - (k + 1))
            case rel => exact ⟨k + 1, rfl, by omega, by go_num, by rw [HTK'.out]; exact hO5, (hO.flat hA).flatFr (hfr.trans hA) hf5⟩
            case measure => omega
        | par rows =>
          obtain ⟨v1, rfl, hs⟩ := tr_par.1 hrep
          obtain ⟨a1, c1, rfl, _, hcm1, hs⟩ := hs.form
          have hT : txT (.par rows) = bs [40] ++ jn 124 (txRows rows) ++ bs [41] := rfl
          have hjs : (jn 124 (txRows rows)).size ≤ 100000 := by rw [hT] at hts; simp only [ByteArray.size_append] at hts; omega
          have hrl : rows.length ≤ 100001 := by have := jn_len 124 (txRows rows); rw [txRows_len] at this; omega
          have c0 : wo.cell? ⟨g, off + k * 3, none⟩ = some (.string ByteArray.empty) := hcells 0 _ rfl
          have c1' : wo.cell? ⟨g, off + k * 3 + 1, none⟩ = some (.int .u8 0) := hcells 1 _ rfl
          have c2 : wo.cell? ⟨g, off + k * 3 + 2, none⟩ = some (.slice a1 rows.length c1) := hcells 2 _ rfl
          have hP : Blk (wo.alloc (.cells #[.string ByteArray.empty, .int .u8 0, .slice a1 rows.length c1] 54)) wo.heap.size 54 [.string ByteArray.empty, .int .u8 0, .slice a1 rows.length c1] := Blk.new wo _ _
          have hcv2 : (convert 55 9 (.slice (some ⟨wo.heap.size + 1, 0, none⟩) 1 1)).run Try.prog ((wo.alloc (.cells #[.string ByteArray.empty, .int .u8 0, .slice a1 rows.length c1] 54)).alloc (.cells #[.int .u8 0] 5)) = .ok (.string (bs [0])) ((wo.alloc (.cells #[.string ByteArray.empty, .int .u8 0, .slice a1 rows.length c1] 54)).alloc (.cells #[.int .u8 0] 5)) := by
            have h1 := Try.conv1 (wo.alloc (.cells #[.string ByteArray.empty, .int .u8 0, .slice a1 rows.length c1] 54)) 0
            rw [show (wo.alloc (.cells #[.string ByteArray.empty, .int .u8 0, .slice a1 rows.length c1] 54)).heap.size = wo.heap.size + 1 by simp] at h1
            exact h1
          have hbm : (bs [0]).size = 1 := rfl
          have hbe : ByteArray.empty.size = 0 := rfl
          have HS := Lib.hid hs
          have HTK' := Lib.hid (show txRow (ts.take (k + 1)) = L ++ [bs [40] ++ jn 124 (txRows rows) ++ bs [41]] from HTK.out)
          have hdt' : depRows rows ≤ depRow ts := hdt
          have HPM := Lib.hid (show ∀ p, p ∈ partsRows rows → p.2 ≠ 0 from hpm)
          have HO := Lib.hid hO
          clear hrep hcells hpm hts HTK hdt hs hO hT
          go_wp2
          go_loopg [7, 9, 31] rows.length (fun mm v7 _ v31 wr => ∃ q, mm = rows.length - q ∧ q ≤ rows.length ∧ v31 = .int .i64 q ∧ OwnS wo.heap.size wr v7 (txRows (rows.take q)) ∧ Fr [] wo wr)
          case atStart => exact ⟨0, rfl, Nat.zero_le _, rfl, Own.empty (by have := heap_alloc_new ((wo.alloc (.cells #[.string ByteArray.empty, .int .u8 0, .slice a1 rows.length c1] 54)).alloc (.cells #[.int .u8 0] 5)) (.cells #[] 9); simpa using this) (by omega), (((Fr.refl [] wo).alloc _).alloc _).alloc _⟩
          case round =>
            obtain ⟨q, rfl, hq, rfl, hO6, hfr6⟩ := hrel
            have hL6l : (txRows (rows.take q)).length = q := by rw [txRows_len, List.length_take]; omega
            by_cases hlq : q < rows.length
            · obtain ⟨r, hr⟩ : ∃ r, rows[q]? = some r := ⟨_, List.getElem?_eq_getElem hlq⟩
              have hrm := List.mem_of_getElem? hr
              obtain ⟨g2, off2, cs2, rfl, _, _, ⟨v2, rfl, hsl2⟩, hcells2⟩ := (HS.out.frame hfr6 (by simp)).get hr
              obtain ⟨a3, c3, rfl, _, _, hsl2⟩ := hsl2.form
              have d0 : wr.cell? ⟨g2, off2 + q, none⟩ = some (.slice a3 r.length c3) := by
                have h0 : wr.cell? ⟨g2, off2 + q * 1 + 0, none⟩ = some (.slice a3 r.length c3) := hcells2 0 _ rfl
                rwa [Nat.mul_one, Nat.add_zero] at h0
              have hdr := dep_le_rows hrm
              have hjr : (jn 59 (txRow r)).size ≤ 100000 := Nat.le_trans (jn_mem (txRows_mem hrm)) hjs
              obtain ⟨post2, hpost2⟩ := partsRows_split hr
              have HMR := Lib.hid (show ∀ p, p ∈ partsRow r → p.2 ≠ 0 from fun p hp => HPM.out p (by rw [hpost2]; simp [hp]))
              have HD := Lib.hid (txRows_take hr)
              have HSL2 := Lib.hid hsl2
              clear hcells2 hr hpost2 hsl2 hrm post2
              generalize hL6 : txRows (rows.take q) = L6 at hO6 hL6l HD
              have HL6 := Lib.hid hL6
              have HL6L := Lib.hid hL6l
              obtain ⟨a6, cap6, rfl⟩ := hO6.form
              have HO6 := Lib.hid hO6
              clear hL6 hO6 hL6l
              go_wp2_with (first
                | (go_at_call 37; refine (IH.out r _ _ (by omega) hjr HMR.out (HSL2.out.mono (fun _ _ => trivial))).mono ?_; rintro e w2 ⟨rfl, hf7⟩)
                | (at_builtin; refine wpList_append_Own (P := Try.prog) (by rfl) (.tmp 35) (.tmp 38) 25 (by rfl) (T := Ty.str) (l := L6) (y := jn 59 (txRow r)) (v := .slice a6 L6.length cap6) (tb := w2.heap.size) (c := 1) (cs := [.string (jn 59 (txRow r))]) Try.inf_string (by rfl) (HO6.out.flat (hf7.alloc _)) (by rfl) (by exact heap_alloc_new _ _) ⟨rfl, by simp only [maxLen]; omega⟩ ?_ ?o3 ?o4 ?o5; intro p cap w8 hO8 hf8 hat))
              case o3 => have := hfr6.size; have := hf7.size; simp; omega
              case o4 => have := HL6L.out; simp only [maxLen]; omega
              case o5 => have := HL6L.out; omega
              · have hF := (HO6.out.flat (hf7.alloc _)).flatFr (hfr6.trans (hf7.alloc _)) hf8
                go_roundg (rows.length - (q + 1))
                case rel => exact ⟨q + 1, rfl, by omega, by go_num, by rw [HD.out]; exact hO8, hF⟩
                case measure => omega
            · obtain rfl : q = rows.length := by omega
              rw [List.take_length] at hO6
              obtain ⟨jj, hjj⟩ : ∃ jj, jj = jn 124 (txRows rows) := ⟨_, rfl⟩
              have J := join_any (txRows rows) _ 124 wr (hO6.sl.mono (fun _ _ => trivial)) hjs
              rw [← hjj] at J hjs
              have HJJ := Lib.hid hjj
              have J' := Lib.hid J
              have hys : (bs [40] ++ jj ++ bs [41]).size ≤ maxLen := by
                rw [ByteArray.size_append, ByteArray.size_append, show ∀ c, (bs [c]).size = 1 from fun _ => rfl, show ∀ c, (bs [c]).size = 1 from fun _ => rfl]; simp only [maxLen]; omega
              have HYS := Lib.hid hys
              clear hjj J hL6l hys hO6
              go_upto_region 14 with (go_at_call 58; refine J'.out.mono ?_; rintro e w2 ⟨rfl, hf7⟩)
              have hA := (hfr6.trans hf7).alloc (.cells #[.string (bs [40] ++ jj ++ bs [41])] 9)
              have hO8 := HO.out.flat hA
              have HO8 := Lib.hid hO8
              have hA2 := hfr.trans hA
              have HA := Lib.hid hA2
              have hsz8 : w.heap.size ≤ (w2.alloc (.cells #[.string (bs [40] ++ jj ++ bs [41])] 9)).heap.size := hA2.size
              clear hfr6 hf7 hA hO8 hA2 J'
              go_wp2_with (at_builtin; refine wpList_append_Own (P := Try.prog) (by rfl) (.tmp 45) (.tmp 47) 25 (by rfl) (T := Ty.str) (l := L) (y := bs [40] ++ jj ++ bs [41]) (v := .slice a0 L.length cap0) (tb := w2.heap.size) (c := 1) (cs := [.string (bs [40] ++ jj ++ bs [41])]) Try.inf_string (by rfl) HO8.out (by rfl) (by exact heap_alloc_new _ _) ⟨rfl, HYS.out⟩ ?_ ?o3 ?o4 ?o5; intro p cap w8 hO9 hf8 hat)
              case o3 => exact hsz8
              case o4 => simp only [maxLen]; omega
              case o5 => omega
              · go_roundg (ts.length - (k + 1))
                case rel => exact ⟨k + 1, rfl, by omega, by go_num, by rw [HTK'.out, ← HJJ.out]; exact hO9, HO8.out.flatFr HA.out hf8⟩
                case measure => omega
      · obtain rfl : k = ts.length := by omega
        rw [List.take_length] at hO
        go_wp2_with (go_at_call 58; refine (join_any (txRow ts) _ 59 _ (hO.sl.mono (fun _ _ => trivial)) SZ.out).mono ?_; rintro e w2 ⟨rfl, hf2⟩)
        go_ret
        exact ⟨rfl, hfr.trans hf2⟩
end Go.Proofs.Ytklggjbmkgdkpaa
