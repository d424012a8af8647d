/- Contracts of the functions of the program and of the reference, each proved by a walk through its code. -/
import Derived.Test.YtkfpoagjlaldgaaGPskEdges
set_option linter.all false
set_option maxRecDepth 20000
namespace Go.Proofs.Ytkfpoagjlaldgaa
open Go.RowKit

theorem expandRow_append (a b : List Tr) : expandRow (a ++ b) = expandRow a ++ expandRow b := by
  induction a with
  | nil => simp [expandRow]
  | cons x a ih => simp [expandRow, ih]
theorem expandRows_append (a b : List (List Tr)) : expandRows (a ++ b) = expandRows a ++ expandRows b := by
  induction a with
  | nil => simp [expandRows]
  | cons x a ih => simp [expandRows, ih]
theorem expandRow_take {ts : List Tr} {k : Nat} {t : Tr} (h : ts[k]? = some t) : expandRow (ts.take (k + 1)) = expandRow (ts.take k) ++ expandT t := by
  rw [List.take_add_one, h]; simp [expandRow_append, expandRow]
theorem expandRows_take {ts : List (List Tr)} {k : Nat} {t : List Tr} (h : ts[k]? = some t) : expandRows (ts.take (k + 1)) = expandRows (ts.take k) ++ [expandRow t] := by
  rw [List.take_add_one, h]; simp [expandRows_append, expandRows]
theorem expandRows_len (rs : List (List Tr)) : (expandRows rs).length = rs.length := by
  induction rs with
  | nil => simp [expandRows]
  | cons a rs ih => simp [expandRows, ih]
theorem okRow_mem {ts : List Tr} (h : okRow ts) {t : Tr} (ht : t ∈ ts) : okT t := by
  induction ts with
  | nil => cases ht
  | cons a ts ih =>
    rcases List.mem_cons.1 ht with rfl | ht
    · exact h.1
    · exact ih h.2 ht
theorem okRows_mem {rs : List (List Tr)} (h : okRows rs) {r : List Tr} (hr : r ∈ rs) : okRow r := by
  induction rs with
  | nil => cases hr
  | cons a rs ih =>
    rcases List.mem_cons.1 hr with rfl | hr
    · exact h.1.2
    · exact ih h.2 hr
theorem cntRow_split {ts : List Tr} {k : Nat} {t : Tr} (h : ts[k]? = some t) : cntRow (ts.take k) + cntT t ≤ cntRow ts := by
  induction ts generalizing k with
  | nil => simp at h
  | cons a ts ih =>
    cases k with
    | zero => simp at h; subst h; simp [cntRow]
    | succ k => simp at h; have := ih h; simp only [List.take_succ_cons, cntRow]; omega
theorem cntRows_split {ts : List (List Tr)} {k : Nat} {t : List Tr} (h : ts[k]? = some t) : cntRows (ts.take k) + cntRow t + 1 ≤ cntRows ts := by
  induction ts generalizing k with
  | nil => simp at h
  | cons a ts ih =>
    cases k with
    | zero => simp at h; subst h; simp [cntRows]
    | succ k => simp at h; have := ih h; simp only [List.take_succ_cons, cntRows]; omega
theorem cntRows_len (rs : List (List Tr)) : rs.length ≤ cntRows rs := by
  induction rs with
  | nil => simp
  | cons a rs ih => simp only [List.length_cons, cntRows]; omega
theorem expandT_len {t : Tr} (h : okT t) : (expandT t).length ≤ 4 * cntT t := by
  cases t with
  | edge n m => simp only [expandT, cntT]; split <;> simp
  | par rows =>
    have := cntRows_len rows
    have : rows.length ≠ 0 := fun h0 => h.1 (List.eq_nil_of_length_eq_zero h0)
    simp only [expandT, cntT, List.length_cons, List.length_nil]; omega
theorem expandRow_len {ts : List Tr} (h : okRow ts) : (expandRow ts).length ≤ 4 * cntRow ts := by
  induction ts with
  | nil => simp [expandRow]
  | cons a ts ih =>
    have h1 := expandT_len h.1
    have h2 := ih h.2
    simp only [expandRow, List.length_append, cntRow]; omega
theorem okRow_take {ts : List Tr} (h : okRow ts) (k : Nat) : okRow (ts.take k) := by
  induction ts generalizing k with
  | nil => simp [okRow]
  | cons a ts ih =>
    cases k with
    | zero => simp [okRow]
    | succ k => exact ⟨h.1, ih h.2 k⟩

/-- Four edges in a block of their own read as a slice. -/
theorem SL.four {K : Nat → Prop} {W : World} {g : Nat} {n1 n2 n3 n4 : ByteArray} {m1 m2 m3 m4 : UInt8} (hK : K g) (h1 : n1.size ≤ maxLen) (h2 : n2.size ≤ maxLen) (h3 : n3.size ≤ maxLen) (h4 : n4.size ≤ maxLen)
    (hb : W.heap[g]? = some (.cells #[.string n1, .int .u8 (m1.toNat : Int), .slice none 0 0, .string n2, .int .u8 (m2.toNat : Int), .slice none 0 0, .string n3, .int .u8 (m3.toNat : Int), .slice none 0 0, .string n4, .int .u8 (m4.toNat : Int), .slice none 0 0] 40 (0, 0))) :
    SL K 40 tr W (.slice (some ⟨g, 0, none⟩) 4 4) [.edge n1 m1, .edge n2 m2, .edge n3 m3, .edge n4 m4] := by
  refine ⟨some ⟨g, 0, none⟩, 4, rfl, by simp, by simp [maxLen], (fun h => by cases h), fun p hp => ?_⟩
  cases hp
  refine ⟨rfl, hK, _, (0, 0), hb, Nat.le_refl _, fun i x hx => ?_⟩
  match i, hx with
  | 0, hx => simp at hx; subst hx; exact ⟨rfl, h1⟩
  | 1, hx => simp at hx; subst hx; exact ⟨rfl, h2⟩
  | 2, hx => simp at hx; subst hx; exact ⟨rfl, h3⟩
  | 3, hx => simp at hx; subst hx; exact ⟨rfl, h4⟩
  | i + 4, hx => simp at hx

def ExpPost (l : List Tr) (w : World) (e : Ending) (w' : World) : Prop := ∃ v, e = .returned v ∧ SL (fun k => w.heap.size ≤ k) 40 tr w' v l ∧ Fr [] w w'
theorem leafOk_size {nm : ByteArray} {m : UInt8} (h : leafOk nm m = true) : nm.size ≤ 6 := by
  simp only [leafOk, Bool.and_eq_true, nameOk, decide_eq_true_eq] at h
  have := h.1.1.1.2
  simpa using this
abbrev OwnT (B : Nat) (w : World) (v : Value) (l : List Tr) : Prop := Own (fun k => B ≤ k) (fun k => B ≤ k) 40 tr w v l

set_option maxHeartbeats 4000000 in
set_option maxRecDepth 100000 in
theorem expanded_any : ∀ (n : Nat) (ts : List Tr) (v : Value) (w : World), depRow ts < n → okRow ts → cntRow ts ≤ 10000 → SL (fun _ => True) 40 tr w v ts → Calls Try.prog 17 #[v] w (ExpPost (expandRow ts) w) := by
  intro n
  induction n with
  | zero => intro ts v w hn; omega
  | succ n ih =>
    intro ts v w hn hok hcnt hsl
    have IH := Lib.hid ih
    have HOK := Lib.hid hok
    clear ih
    obtain ⟨a, cap, rfl, hlc, hcm, hsl⟩ := hsl.form
    have hml : ts.length ≤ 9223372036854775807 := by simp only [maxLen] at hcm; omega
    have HSL := Lib.hid hsl.bound
    clear hsl hlc hcm hok
    go_enter Try.func17, Try.ntmps17
    go_wp2
    go_loopg [3, 12] ts.length (fun mm v3 v12 wr => ∃ k, mm = ts.length - k ∧ k ≤ ts.length ∧ v12 = .int .i64 k ∧ OwnT w.heap.size wr v3 (expandRow (ts.take k)) ∧ Fr [] w wr)
    case atStart => exact ⟨0, rfl, Nat.zero_le _, rfl, Own.empty (heap_alloc_new w _) (Nat.le_refl _), (Fr.refl _ _).alloc _⟩
    case round =>
      obtain ⟨k, rfl, hk, rfl, hO, hfr⟩ := hrel
      obtain ⟨wo, rfl⟩ : ∃ wo : World, wo = wr := ⟨_, rfl⟩
      by_cases hlt : k < ts.length
      · obtain ⟨t, ht⟩ : ∃ t, ts[k]? = some t := ⟨_, List.getElem?_eq_getElem hlt⟩
        obtain ⟨g, off, cs, rfl, _, _, hrep, hcells⟩ := (HSL.out.frame hfr (by simp)).get ht
        have hdt : dep t ≤ depRow ts := dep_le_row (List.mem_of_getElem? ht)
        have hokt := okRow_mem HOK.out (List.mem_of_getElem? ht)
        have hc1 := cntRow_split ht
        have hl1 : (expandRow (ts.take k)).length ≤ 4 * cntRow (ts.take k) := expandRow_len (okRow_take HOK.out k)
        have hl2 := expandT_len hokt
        have HTK := Lib.hid (expandRow_take ht)
        generalize hL : expandRow (ts.take k) = L at hO hl1
        have HL := Lib.hid hL
        obtain ⟨a0, cap0, rfl⟩ := hO.form
        clear ht hL
        cases t with
        | edge nm m =>
          obtain ⟨rfl, hsz⟩ := tr_edge.1 hrep
          have c0 : wo.cell? ⟨g, off + k * 3, none⟩ = some (.string nm) := hcells 0 _ rfl
          have c1' : wo.cell? ⟨g, off + k * 3 + 1, none⟩ = some (.int .u8 (m.toNat : Int)) := hcells 1 _ rfl
          have c2 : wo.cell? ⟨g, off + k * 3 + 2, none⟩ = some (.slice none 0 0) := hcells 2 _ rfl
          have hns := leafOk_size (m := m) hokt
          have hmk := leafOk_marks (n := nm) (m := m) hokt
          clear hrep hcells
          rcases hmk with ⟨h1, h2⟩ | ⟨h1, h2⟩
          · have E := Lib.hid (show expandT (.edge nm m) = [.edge nm m] by simp [expandT, h2])
            have hz0 : ((m.toNat : Int) == 33) = false ∧ ((m.toNat : Int) == 63) = false ∧ ((m.toNat : Int) == 0) = false := by
              have e : ∀ q : UInt8, (m == q) = (m.toNat == q.toNat) := fun q => by rw [Bool.eq_iff_iff]; simp [UInt8.toNat_inj]
              simp only [e, UInt8.reduceToNat, beq_iff_eq, Bool.or_eq_true, Bool.or_eq_false_iff, beq_eq_false_iff_ne, ne_eq] at h1 h2 ⊢
              omega
            obtain ⟨z1, z2, z3⟩ := hz0
            clear h1 h2 hl2
            go_wp2_with (at_builtin; refine wpList_append_Own (P := Try.prog) (by rfl) (.tmp 18) (.tmp 20) 32 (by rfl) (T := tr) (l := L) (y := .edge nm m) (v := .slice a0 L.length cap0) (tb := wo.heap.size + 1) (c := 1) (cs := [.string nm, .int .u8 (m.toNat : Int), .slice none 0 0]) Try.inf_part (by rfl) (hO.old (((Fr.refl [] wo).alloc _).alloc _) (by simp)) (by rfl) (by exact alloc2_new wo _ _) (by exact (tr_edge (K := fun q => w.heap.size ≤ q ∧ (Value.slice a0 L.length cap0).ownBlock ≠ some q)).2 ⟨rfl, hsz⟩) ?_ ?o3 ?o4 ?o5; intro p cap w5 hO5 hf5 hat)
            case o3 => have := hfr.size; simp; omega
            case o4 => simp only [maxLen, cntT] at *; omega
            case o5 => simp only [cntT] at *; omega
            · have hA : Fr [] wo ((wo.alloc (.cells #[.string nm, .int .u8 (m.toNat : Int), .slice none 0 0] 40)).alloc (.cells #[.string nm, .int .u8 (m.toNat : Int), .slice none 0 0] 40)) := ((Fr.refl [] wo).alloc _).alloc _
              have hO5' : OwnT w.heap.size w5 (.slice p (L.length + 1) cap) (expandRow (ts.take (k + 1))) := by rw [HTK.out, HL.out, E.out]; exact hO5
              have hfr5 := (hO.old hA (by simp)).fr (hfr.trans hA) hf5
              clear hat hO5 hf5 hA
              go_wp2
              go_roundg (ts.length - (k + 1))
              case rel => exact ⟨k + 1, rfl, by omega, by go_num, hO5', hfr5⟩
              case measure => omega
          · have E := Lib.hid (show expandT (.edge nm m) = [.edge (nm ++ bs [114]) 43, .edge (nm ++ bs [97]) 43, .edge (nm ++ bs [114]) 45, .edge (nm ++ bs [97]) 45] by simp [expandT, h2])
            have hz0 : ((m.toNat : Int) == 33) = true ∨ (((m.toNat : Int) == 33) = false ∧ ((m.toNat : Int) == 63) = true) := by
              have e : ∀ q : UInt8, (m == q) = (m.toNat == q.toNat) := fun q => by rw [Bool.eq_iff_iff]; simp [UInt8.toNat_inj]
              simp only [e, UInt8.reduceToNat, beq_iff_eq, Bool.or_eq_true, Bool.or_eq_false_iff, beq_eq_false_iff_ne, ne_eq] at h1 h2 ⊢
              omega
            clear h1 h2 hl2
            have hwz := hfr.size
            have hown : ∀ q, (Value.slice a0 L.length cap0).ownBlock = some q → q < wo.heap.size := fun q hq => (hO.lt hq).2
            have HOWN := Lib.hid hown
            clear hown
            have hs1 : (nm ++ bs [114]).size ≤ maxLen := by rw [ByteArray.size_append, show (bs [114]).size = 1 from rfl]; simp only [maxLen]; omega
            have hs2 : (nm ++ bs [97]).size ≤ maxLen := by rw [ByteArray.size_append, show (bs [97]).size = 1 from rfl]; simp only [maxLen]; omega
            have HS1 := Lib.hid hs1
            have HS2 := Lib.hid hs2
            clear hs1 hs2
            have hcc : L.length + 4 ≤ 40000 := by simp only [cntT] at hc1; omega
            rcases hz0 with z1 | ⟨z1, z2⟩
            all_goals
              go_wp2_with (at_builtin; refine wpList_append_OwnMany (P := Try.prog) (by rfl) (.tmp 25) (.tmp 42) 32 (by rfl) (T := tr) (l := L) (l2 := [.edge (nm ++ bs [114]) 43, .edge (nm ++ bs [97]) 43, .edge (nm ++ bs [114]) 45, .edge (nm ++ bs [97]) 45]) (v := .slice a0 L.length cap0) (vx := .slice (some ⟨wo.heap.size + 1, 0, none⟩) 4 4) Try.inf_part (by rfl) (hO.old (((Fr.refl [] wo).alloc _).alloc _) (by simp)) (by rfl) (SL.four (K := fun q => w.heap.size ≤ q ∧ (Value.slice a0 L.length cap0).ownBlock ≠ some q) ⟨by omega, fun hv => by have := HOWN.out _ hv; omega⟩ HS1.out HS2.out HS1.out HS2.out (by exact alloc2_new wo _ _)) (fun _ _ h => h) ?_ ?o3 ?o4 ?o5; intro p cap w5 hO5 hf5 hat)
              case o3 => first | omega | (simp; omega)
              case o4 => simp only [maxLen]; first | omega | (simp; omega)
              case o5 => first | omega | (simp; omega)
              · have hfr5 := ((hO.old (((Fr.refl [] wo).alloc _).alloc _) (by simp)).fr (hfr.trans (((Fr.refl [] wo).alloc _).alloc _)) hf5)
                have hO5' : OwnT w.heap.size w5 (.slice p (L.length + 4) cap) (expandRow (ts.take (k + 1))) := by rw [HTK.out, HL.out, E.out]; exact hO5
                clear hat hO5 hf5
                go_wp2
                go_roundg (ts.length - (k + 1))
                case rel => exact ⟨k + 1, rfl, by omega, by go_num, hO5', hfr5⟩
                case measure => omega
        | par rows =>
          obtain ⟨v1, rfl, hs⟩ := tr_par.1 hrep
          obtain ⟨a1, c1, rfl, hrc, hrm, hs⟩ := hs.form
          have c0 : wo.cell? ⟨g, off + k * 3, none⟩ = some (.string ByteArray.empty) := hcells 0 _ rfl
          have c1' : wo.cell? ⟨g, off + k * 3 + 1, none⟩ = some (.int .u8 0) := hcells 1 _ rfl
          have c2 : wo.cell? ⟨g, off + k * 3 + 2, none⟩ = some (.slice a1 rows.length c1) := hcells 2 _ rfl
          have hrl : rows.length ≤ 9223372036854775807 := by simp only [maxLen] at hrm; omega
          have HR := Lib.hid hs
          have hwz := hfr.size
          have hdrows : depRows rows ≤ depRow ts := by simpa only [dep] using hdt
          have hcrows : cntRow (ts.take k) + cntRows rows ≤ 10000 := by simp only [cntT] at hc1; omega
          have HOKR := Lib.hid hokt.2
          have hP5 : Blk (wo.alloc (.cells #[.string ByteArray.empty, .int .u8 0, .slice a1 rows.length c1] 40)) wo.heap.size 40 [.string ByteArray.empty, .int .u8 0, .slice a1 rows.length c1] := Blk.new wo _ _
          have hOb := hO.bound
          have HOB := Lib.hid hOb
          have hlr2 := cntRows_len rows
          have E := Lib.hid (show expandT (.par rows) = [.par (expandRows rows)] by simp [expandT])
          clear hrep hcells hs hrc hrm hdt hokt hOb hl2
          go_wp2
          go_loopg [6, 8, 50] rows.length (fun mm v6 _ v17 wr => ∃ q, mm = rows.length - q ∧ q ≤ rows.length ∧ v17 = .int .i64 q ∧ Own (fun q => wo.heap.size ≤ q) (fun q => wo.heap.size ≤ q) 32 rowT wr v6 (expandRows (rows.take q)) ∧ Fr [] wo wr)
          case atStart => exact ⟨0, rfl, Nat.zero_le _, rfl, Own.empty (by exact alloc2_new wo _ _) (by omega), ((Fr.refl [] wo).alloc _).alloc _⟩
          case round =>
            obtain ⟨q, rfl, hq, rfl, hO6, hfr6⟩ := hrel
            have hl6 : (expandRows (rows.take q)).length = q := by rw [expandRows_len, List.length_take]; omega
            generalize hL6 : expandRows (rows.take q) = L6 at hO6 hl6
            have HL6 := Lib.hid hL6
            obtain ⟨a6, cap6, rfl⟩ := hO6.form
            have HLL := Lib.hid hl6
            clear hL6 hl6
            by_cases hlq : q < rows.length
            · obtain ⟨r, hr⟩ : ∃ r, rows[q]? = some r := ⟨_, List.getElem?_eq_getElem hlq⟩
              obtain ⟨g2, off2, cs2, rfl, _, _, ⟨v2, rfl, hsl2⟩, hcells2⟩ := (HR.out.frame hfr6 (by simp)).get hr
              obtain ⟨a3, c3, rfl, _, _, hsl2⟩ := hsl2.form
              have d0 : wr.cell? ⟨g2, off2 + q, none⟩ = some (.slice a3 r.length c3) := by
                have h0 : wr.cell? ⟨g2, off2 + q * 1 + 0, none⟩ = some (.slice a3 r.length c3) := hcells2 0 _ rfl
                rwa [Nat.mul_one, Nat.add_zero] at h0
              have hdr := dep_le_rows (List.mem_of_getElem? hr)
              have hokr := okRows_mem HOKR.out (List.mem_of_getElem? hr)
              have hcr := cntRows_split hr
              have HOKr := Lib.hid hokr
              have HD := Lib.hid (expandRows_take hr)
              have hwz6 := hfr6.size
              clear hcells2 hr hokr
              go_wp2_with (first
                | (go_at_call 17; refine (IH.out r _ _ (by omega) HOKr.out (by omega) (hsl2.mono (fun _ _ => trivial))).mono ?_; rintro e w2 ⟨v7, rfl, hsl7, hf7⟩; obtain ⟨a7, cap7, rfl, _, _, hsl7⟩ := hsl7.form)
                | (at_builtin; refine wpList_append_Own (P := Try.prog) (by rfl) (.tmp 54) (.tmp 57) 38 (by rfl) (T := rowT) (l := L6) (y := expandRow r) (v := .slice a6 L6.length cap6) (tb := w2.heap.size) (c := 1) (cs := [.slice a7 (expandRow r).length cap7]) Try.inf_partS (by rfl) ((hO6.old hf7 (by simp)).old ((Fr.refl [] w2).alloc _) (by simp)) (by rfl) (heap_alloc_new w2 _) (hO6.apart (Nat.le_refl _) hwz6 (row_rep hsl7) _) ?_ ?o3 ?o4 ?o5; intro p cap w8 hO8 hf8 hat))
              case o3 => have := hf7.size; simp; omega
              case o4 => rw [HLL.out]; simp only [maxLen]; omega
              case o5 => rw [HLL.out]; omega
              · have hA : Fr [] wr (w2.alloc (.cells #[.slice a7 (expandRow r).length cap7] 32)) := hf7.trans ((Fr.refl [] w2).alloc _)
                have hfr8 : Fr [] wo w8 := (hO6.old hA (by simp)).fr (hfr6.trans hA) hf8
                have HF8 := Lib.hid hfr8
                have hO8' : Own (fun q => wo.heap.size ≤ q) (fun q => wo.heap.size ≤ q) 32 rowT w8 (.slice p (L6.length + 1) cap) (expandRows (rows.take (q + 1))) := by rw [HD.out, HL6.out]; exact hO8
                clear hfr8 hat hO8 hsl7 hA
                go_roundg (rows.length - (q + 1))
                case rel => exact ⟨q + 1, rfl, by omega, by go_num, hO8', HF8.out⟩
                case measure => omega
            · obtain rfl : q = rows.length := by omega
              have hL6' : L6 = expandRows rows := by have := HL6.out; rw [List.take_length] at this; exact this.symm
              have HL6' := Lib.hid hL6'
              clear hL6'
              have hwz6 := hfr6.size
              have hown : ∀ q, (Value.slice a0 L.length cap0).ownBlock = some q → w.heap.size ≤ q ∧ q < wo.heap.size := fun q hq => hO.lt hq
              have HOWN := Lib.hid hown
              clear hown
              have hOr := (HOB.out.frame hfr6 (by simp) (by simp)).mono (G' := fun q => w.heap.size ≤ q) (K' := fun q => w.heap.size ≤ q) (fun q hq => hq.1) (fun q hq => hq.1)
              have hlc : L.length + 1 ≤ 40001 := by omega
              go_wp2_with (at_builtin; refine wpList_append_Own (P := Try.prog) (by rfl) (.tmp 60) (.tmp 63) 32 (by rfl) (T := tr) (l := L) (y := .par (expandRows rows)) (v := .slice a0 L.length cap0) (tb := wr.heap.size) (c := 1) (cs := [.string ByteArray.empty, .int .u8 0, .slice a6 L6.length cap6]) Try.inf_part (by rfl) (hOr.old ((Fr.refl [] wr).alloc _) (by simp)) (by rfl) (by exact heap_alloc_new wr _) (by
                refine tr_par.2 ⟨_, rfl, ?_⟩
                rw [← HL6'.out]
                exact (hO6.slB.frame ((Fr.refl [] wr).alloc _) (by simp)).mono (fun q hq => ⟨by omega, fun hv => by have := (HOWN.out q hv).2; omega⟩)) ?_ ?o3 ?o4 ?o5; intro p cap w8 hO8 hf8 hat)
              case o3 => simp; omega
              case o4 => simp only [maxLen]; omega
              case o5 => omega
              · have hA : Fr [] wo (wr.alloc (.cells #[.string ByteArray.empty, .int .u8 0, .slice a6 L6.length cap6] 40)) := hfr6.trans ((Fr.refl [] wr).alloc _)
                have hfr8 : Fr [] w w8 := (hOr.old ((Fr.refl [] wr).alloc _) (by simp)).fr (hfr.trans hA) hf8
                have hO8' : OwnT w.heap.size w8 (.slice p (L.length + 1) cap) (expandRow (ts.take (k + 1))) := by rw [HTK.out, HL.out, E.out]; exact hO8
                clear hat hO8 hf8 hA
                go_wp2
                go_roundg (ts.length - (k + 1))
                case rel => exact ⟨k + 1, rfl, by omega, by go_num, hO8', hfr8⟩
                case measure => omega
      · obtain rfl : k = ts.length := by omega
        go_wp2
        go_ret
        exact ⟨_, rfl, by simpa using hO.slB, hfr⟩
end Go.Proofs.Ytkfpoagjlaldgaa

