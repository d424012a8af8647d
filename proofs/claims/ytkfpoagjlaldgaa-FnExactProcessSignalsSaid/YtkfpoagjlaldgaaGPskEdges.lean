/- Contracts of the functions of the program and of the reference, each proved by a walk through its code. -/
import Derived.Test.YtkfpoagjlaldgaaGPskTree
import Derived.Test.YtkfpoagjlaldgaaGPskRep2
import Derived.Test.YtkfpoagjlaldgaaGPskDepth
set_option linter.all false
set_option maxRecDepth 20000
namespace Go.Proofs.Ytkfpoagjlaldgaa
open Go.RowKit

/-- An edge in memory: a part without rows. -/
def edgeT : Ty (ByteArray × UInt8) where
  size := 3
  rep _ _ cs x := cs = [.string x.1, .int .u8 (x.2.toNat : Int), .slice none 0 0] ∧ x.1.size ≤ maxLen
  len h := by rw [h.1]; rfl
  one h u hu := by rw [h.1] at hu; simp at hu; rcases hu with rfl | rfl | rfl <;> rfl
  frame h _ _ := h
  mono h _ := h
  bound h := h
/-- An empty slice, just made. -/
theorem Own.empty {α : Type} {G K : Nat → Prop} {e : TypeId} {T : Ty α} {w : World} {g : Nat} (hb : w.heap[g]? = some (.cells #[] e (0, 0))) (hG : G g) : Own G K e T w (.slice (some ⟨g, 0, none⟩) 0 0) [] :=
  ⟨[], ⟨by simp, .inr ⟨g, 0, #[], rfl, Nat.zero_le _, hb, Nat.le_refl _, by simp, by simp, by simp⟩⟩, fun g' hg => by simp [Value.ownBlock] at hg; subst hg; exact hG, fun i x hx => by simp at hx⟩
/-- Owned slices of flat elements: only their own block matters. -/
theorem Own.flat {α : Type} {B : Nat} {e : TypeId} {t : Ty α} {w w' : World} {v : Value} {l : List α} (h : Own (fun k => B ≤ k) (fun _ => False) e t w v l) (f : Fr [] w w') : Own (fun k => B ≤ k) (fun _ => False) e t w' v l :=
  h.frame f (by simp) (by simp)
theorem Own.flatSL {α : Type} {B : Nat} {e : TypeId} {t : Ty α} {w : World} {v : Value} {l : List α} (h : Own (fun k => B ≤ k) (fun _ => False) e t w v l) : SL (fun k => B ≤ k) e t w v l := h.sl.mono (fun k hk => hk.elim id False.elim)
theorem Own.flatFr {α : Type} {e : TypeId} {t : Ty α} {w w1 w2 : World} {v : Value} {l : List α} {S : List Nat} (h : Own (fun k => w.heap.size ≤ k) (fun _ => False) e t w1 v l) (f : Fr S w w1) (g : Fr v.ownBlock.toList w1 w2) : Fr S w w2 :=
  f.trans_new g (fun i hi => .inr (h.lt (by simpa using hi)).1)

def ownP : Tr → List (ByteArray × UInt8)
  | .edge n m => [(n, m)]
  | .par _ => []
theorem partsT_own (t : Tr) : partsT t = ownP t ++ partsRows (rowsOf t) := by cases t <;> simp [partsT, ownP, rowsOf, partsRows]
theorem partsRow_take {ts : List Tr} {k : Nat} {t : Tr} (h : ts[k]? = some t) : partsRow (ts.take (k + 1)) = partsRow (ts.take k) ++ partsT t := by
  rw [List.take_add_one, h]; simp [partsRow_append, partsRow]
theorem partsRows_append (a b : List (List Tr)) : partsRows (a ++ b) = partsRows a ++ partsRows b := by
  induction a with
  | nil => simp [partsRows]
  | cons x a ih => simp [partsRows, ih]
theorem partsRows_take {ts : List (List Tr)} {k : Nat} {t : List Tr} (h : ts[k]? = some t) : partsRows (ts.take (k + 1)) = partsRows (ts.take k) ++ partsRow t := by
  rw [List.take_add_one, h]; simp [partsRows_append, partsRows]
theorem partsRow_split {ts : List Tr} {k : Nat} {t : Tr} (h : ts[k]? = some t) : ∃ post, partsRow ts = partsRow (ts.take k) ++ partsT t ++ post :=
  ⟨partsRow (ts.drop (k + 1)), by rw [← partsRow_take h, ← partsRow_append, List.take_append_drop]⟩
theorem partsRows_split {ts : List (List Tr)} {k : Nat} {t : List Tr} (h : ts[k]? = some t) : ∃ post, partsRows ts = partsRows (ts.take k) ++ partsRow t ++ post :=
  ⟨partsRows (ts.drop (k + 1)), by rw [← partsRows_take h, ← partsRows_append, List.take_append_drop]⟩

def PartsPost (l : List (ByteArray × UInt8)) (w : World) (e : Ending) (w' : World) : Prop := ∃ v, e = .returned v ∧ SL (fun k => w.heap.size ≤ k) 40 edgeT w' v l ∧ Fr [] w w'

set_option maxHeartbeats 2000000 in
theorem partsOf_any : ∀ (n : Nat) (ts : List Tr) (v : Value) (w : World), depRow ts < n → (partsRow ts).length ≤ 100000 → (∀ p, p ∈ partsRow ts → p.2 ≠ 0) → SL (fun _ => True) 40 tr w v ts → Calls Try.prog 16 #[v] w (PartsPost (partsRow ts) w) := by
  intro n
  induction n with
  | zero =>
    intro ts v w hn
    omega
  | succ n ih =>
    intro ts v w hn hlen hnz hsl
    have IH := Lib.hid ih
    have HNZ := Lib.hid hnz
    clear ih hnz
    obtain ⟨a, cap, rfl, hlc, hcm, hsl⟩ := hsl.form
    have hml : ts.length ≤ 9223372036854775807 := by simp only [maxLen] at hcm; omega
    have HSL := Lib.hid hsl.bound
    clear hsl hlc hcm
    go_enter Try.func16, Try.ntmps16
    go_wp2
    go_loopg [3, 11] ts.length (fun mm v3 v11 wr => ∃ k, mm = ts.length - k ∧ k ≤ ts.length ∧ v11 = .int .i64 k ∧ Own (fun q => w.heap.size ≤ q) (fun _ => False) 40 edgeT wr v3 (partsRow (ts.take k)) ∧ Fr [] w wr)
    case atStart => exact ⟨0, rfl, Nat.zero_le _, rfl, Own.empty (heap_alloc_new w _) (Nat.le_refl _), (Fr.refl _ _).alloc _⟩
    case round =>
      obtain ⟨k, rfl, hk, rfl, hO, hfr⟩ := hrel
      obtain ⟨wo, rfl⟩ : ∃ wo : World, wo = wr := ⟨_, rfl⟩
      by_cases hlt : k < ts.length
      · obtain ⟨t, ht⟩ : ∃ t, ts[k]? = some t := ⟨_, List.getElem?_eq_getElem hlt⟩
        obtain ⟨g, off, cs, rfl, _, _, hrep, hcells⟩ := (HSL.out.frame hfr (by simp)).get ht
        have hdt : dep t ≤ depRow ts := dep_le_row (List.mem_of_getElem? ht)
        obtain ⟨post, hpost⟩ := partsRow_split ht
        have hpl : (partsRow (ts.take k)).length + (partsT t).length ≤ 100000 := by rw [hpost] at hlen; simp at hlen; omega
        have hpm : ∀ p, p ∈ partsT t → p.2 ≠ 0 := fun p hp => HNZ.out p (by rw [hpost]; simp [hp])
        have HTK := Lib.hid (partsRow_take ht)
        have HPM := Lib.hid hpm
        have HPO := Lib.hid hpost
        clear hpm hpost ht
        obtain ⟨a0, cap0, rfl⟩ := hO.form
        have hmid : ∃ nm m a1 c1, cs = [.string nm, .int .u8 m, .slice a1 (rowsOf t).length c1] ∧ SL (fun q => True ∧ q < w.heap.size) 32 rowT wo (.slice a1 (rowsOf t).length c1) (rowsOf t) ∧
            ((m != 0) = true ∧ (∃ mm : UInt8, m = (mm.toNat : Int) ∧ ownP t = [(nm, mm)] ∧ c1 = 0 ∧ a1 = none ∧ nm.size ≤ maxLen ∧ (rowsOf t).length = 0) ∨ (m != 0) = false ∧ ownP t = []) := by
          cases t with
          | edge nm m =>
            obtain ⟨rfl, hsz⟩ := tr_edge.1 hrep
            refine ⟨nm, _, none, 0, rfl, SL.nil _ _ _ _, .inl ⟨?_, m, rfl, rfl, rfl, rfl, hsz, rfl⟩⟩
            have := HPM.out (nm, m) (by simp [partsT])
            simp only at this
            simp
            intro h0
            exact this (UInt8.toNat_inj.1 (by simpa using h0))
          | par rows =>
            obtain ⟨v, rfl, hs⟩ := tr_par.1 hrep
            obtain ⟨a1, c1, rfl, _, _, hs⟩ := hs.form
            exact ⟨_, _, a1, c1, rfl, hs, .inr ⟨by simp, rfl⟩⟩
        obtain ⟨nm, m, a1, c1, rfl, hrows, hmk⟩ := hmid
        have c0 : wo.cell? ⟨g, off + k * 3, none⟩ = some (.string nm) := hcells 0 _ rfl
        have c1' : wo.cell? ⟨g, off + k * 3 + 1, none⟩ = some (.int .u8 m) := hcells 1 _ rfl
        have c2 : wo.cell? ⟨g, off + k * 3 + 2, none⟩ = some (.slice a1 (rowsOf t).length c1) := hcells 2 _ rfl
        have hrl : (rowsOf t).length ≤ 9223372036854775807 := by
          obtain ⟨_, _, hv, h1, h2, _⟩ := hrows
          simp only [Value.slice.injEq] at hv
          simp only [maxLen] at h2; omega
        have HR := Lib.hid hrows
        clear hrep hcells hrows
        have hOl : (partsRow (ts.take k)).length + (ownP t).length ≤ 100000 := by have := congrArg List.length (partsT_own t); simp at this; omega
        have hP5 : Blk (wo.alloc (.cells #[.string nm, .int .u8 m, .slice a1 (rowsOf t).length c1] 40)) wo.heap.size 40 [.string nm, .int .u8 m, .slice a1 (rowsOf t).length c1] := Blk.new wo _ _
        have HOW := Lib.hid (partsT_own t)
        have hpl2 : (partsRow (ts.take k)).length + ((ownP t).length + (partsRows (rowsOf t)).length) ≤ 100000 := by have := congrArg List.length (partsT_own t); simp at this; omega
        go_upto_if 17 with fail
        go_cut [3] (fun v wx => Own (fun q => w.heap.size ≤ q) (fun _ => False) 40 edgeT wx v (partsRow (ts.take k) ++ ownP t) ∧ Fr [] w wx ∧ Fr (Value.slice a0 (partsRow (ts.take k)).length cap0).ownBlock.toList wo wx ∧ Blk wx wo.heap.size 40 [.string nm, .int .u8 m, .slice a1 (rowsOf t).length c1])
        case first =>
          rcases hmk with ⟨hne, mm, rfl, hown, rfl, rfl, hsz, hL0⟩ | ⟨hne, hown⟩
          · have HOWN := Lib.hid hown
            clear hown
            go_wp2_with (at_builtin; refine wpList_append_Own (P := Try.prog) (by rfl) (.tmp 18) (.tmp 20) 32 (by rfl) (T := edgeT) (l := partsRow (ts.take k)) (y := (nm, mm)) (v := .slice a0 (partsRow (ts.take k)).length cap0) (tb := wo.heap.size + 1) (c := 1) (cs := [.string nm, .int .u8 (mm.toNat : Int), .slice none 0 0]) Try.inf_part (by rfl) (hO.flat (((Fr.refl [] wo).alloc _).alloc _)) (by rfl) (by exact alloc2_new wo _ _) ⟨rfl, hsz⟩ ?_ ?o3 ?o4 ?o5; intro p cap w5 hO5 hf5 hat)
            case o3 => have := hfr.size; simp; omega
            case o4 => simp only [maxLen]; omega
            case o5 => omega
            · have hA : Fr [] wo ((wo.alloc (.cells #[.string nm, .int .u8 (mm.toNat : Int), .slice none 0 0] 40)).alloc (.cells #[.string nm, .int .u8 (mm.toNat : Int), .slice none 0 0] 40)) := ((Fr.refl [] wo).alloc _).alloc _
              go_meet
              refine ⟨by rw [HOWN.out]; exact hO5, (hO.flat hA).flatFr (hfr.trans hA) hf5, (hA.mono (by simp)).trans hf5, ?_⟩
              have hb5 := Blk.fr (Blk.alloc hP5 (.cells #[.string nm, .int .u8 (mm.toNat : Int), .slice none 0 0] 40)) (S := (Value.slice a0 (partsRow (ts.take k)).length cap0).ownBlock.toList) (w' := w5) (by rw [hL0]; exact hf5) (fun hm => by have := (hO.lt (g := wo.heap.size) (by simpa using hm)).2; omega)
              exact hb5
          · have HOWN := Lib.hid hown
            clear hown
            go_wp2_with fail
            go_meet
            exact ⟨by rw [HOWN.out, List.append_nil]; exact hO.flat ((Fr.refl [] wo).alloc _), hfr.alloc _, (Fr.refl _ _).alloc _, hP5⟩
        case rest =>
          obtain ⟨hO5, hfr5, hfo, hP⟩ := hcut
          have hrows5 := HR.out.frame hfo (fun q hq hh => by have := (hO.lt (g := q) (by simpa using hq)).1; have := hh.2; omega)
          have hq2 := hP.cell 2 rfl
          have HR5 := Lib.hid hrows5
          clear hrows5 HR hmk
          go_wp2
          go_loopg [3, 7, 25] (rowsOf t).length (fun mm v3 _ v17 wr => ∃ q, mm = (rowsOf t).length - q ∧ q ≤ (rowsOf t).length ∧ v17 = .int .i64 q ∧ Own (fun q => w.heap.size ≤ q) (fun _ => False) 40 edgeT wr v3 (partsRow (ts.take k) ++ ownP t ++ partsRows ((rowsOf t).take q)) ∧ Fr [] w wr ∧
            SL (fun q => True ∧ q < w.heap.size) 32 rowT wr (.slice a1 (rowsOf t).length c1) (rowsOf t))
          case atStart => exact ⟨0, rfl, Nat.zero_le _, rfl, by simpa [partsRows] using hO5, hfr5, HR5.out⟩
          case round =>
            obtain ⟨q, rfl, hq, rfl, hO6, hfr6, hrows6⟩ := hrel
            have hL0 : (partsRow (ts.take k) ++ ownP t ++ partsRows ((rowsOf t).take q)).length = (partsRow (ts.take k)).length + ((ownP t).length + (partsRows ((rowsOf t).take q)).length) := by simp
            generalize hL6 : partsRow (ts.take k) ++ ownP t ++ partsRows ((rowsOf t).take q) = L6 at hO6 hL0
            obtain ⟨a6, cap6, rfl⟩ := hO6.form
            have HL6 := Lib.hid hL6
            have HL0 := Lib.hid hL0
            clear hL6 hL0
            by_cases hlq : q < (rowsOf t).length
            · obtain ⟨r, hr⟩ : ∃ r, (rowsOf t)[q]? = some r := ⟨_, List.getElem?_eq_getElem hlq⟩
              have HR6 := Lib.hid hrows6
              obtain ⟨g2, off2, cs2, rfl, _, _, ⟨v2, rfl, hsl2⟩, hcells2⟩ := hrows6.get hr
              obtain ⟨a3, c3, rfl, _, _, hsl2⟩ := hsl2.form
              have d0 : wr.cell? ⟨g2, off2 + q, none⟩ = some (.slice a3 r.length c3) := by
                have h0 : wr.cell? ⟨g2, off2 + q * 1 + 0, none⟩ = some (.slice a3 r.length c3) := hcells2 0 _ rfl
                rwa [Nat.mul_one, Nat.add_zero] at h0
              have hdr := dep_le_rows (List.mem_of_getElem? hr)
              have hdt2 := dep_rowsOf t
              obtain ⟨post2, hpost2⟩ := partsRows_split hr
              have hlr : L6.length + (partsRow r).length ≤ 100000 := by
                have := congrArg List.length hpost2; simp at this; have := HL0.out; omega
              have hlr2 : (partsRow r).length ≤ 100000 := by omega
              have hmr : ∀ p, p ∈ partsRow r → p.2 ≠ 0 := fun p hp => HPM.out p (by rw [HOW.out, hpost2]; simp [hp])
              have HMR := Lib.hid hmr
              have HD := Lib.hid (partsRows_take hr)
              clear hcells2 hr hrows6 hmr hpost2
              go_wp2_with (first
                | (go_at_call 16; refine (IH.out r _ _ (by omega) hlr2 HMR.out (hsl2.mono (fun _ _ => trivial))).mono ?_; rintro e w2 ⟨v7, rfl, hsl7, hf7⟩; obtain ⟨a7, cap7, rfl, _, _, hsl7⟩ := hsl7.form)
                | (at_builtin; refine wpList_append_OwnMany (P := Try.prog) (by rfl) (.tmp 29) (.tmp 31) 32 (by rfl) (T := edgeT) (l := L6) (l2 := partsRow r) (v := .slice a6 L6.length cap6) (vx := .slice a7 (partsRow r).length cap7) Try.inf_part (by rfl) (hO6.flat hf7) (by rfl) hsl7 (fun _ _ h => h) ?_ ?o3 ?o4 ?o5; intro p cap w8 hO8 hf8 hat))
              case o3 => have := hfr6.size; have := hf7.size; omega
              case o4 => simp only [maxLen]; omega
              case o5 => omega
              · have hrows8 := (HR6.out.frame hf7 (by simp)).frame hf8 (fun q hq hh => by have := (hO6.lt (g := q) (by simpa using hq)).1; have := hh.2; omega)
                have hfr8 := (hO6.flat hf7).flatFr (hfr6.trans hf7) hf8
                have HR8 := Lib.hid hrows8
                have HF8 := Lib.hid hfr8
                have hO8' : Own (fun q => w.heap.size ≤ q) (fun _ => False) 40 edgeT w8 (.slice p (L6.length + (partsRow r).length) cap) (partsRow (ts.take k) ++ ownP t ++ partsRows ((rowsOf t).take (q + 1))) := by rw [HD.out, ← List.append_assoc, HL6.out]; exact hO8
                clear hrows8 hfr8 hat hO8 hsl7
                go_roundg ((rowsOf t).length - (q + 1))
                case rel => exact ⟨q + 1, rfl, by omega, by go_num, hO8', HF8.out, HR8.out⟩
                case measure => omega
            · obtain rfl : q = (rowsOf t).length := by omega
              clear hrows6
              have hO6' : Own (fun q => w.heap.size ≤ q) (fun _ => False) 40 edgeT wr (.slice a6 L6.length cap6) (partsRow (ts.take (k + 1))) := by
                have h6 := HL6.out
                rw [List.take_length] at h6
                rw [HTK.out, HOW.out, ← List.append_assoc, h6]
                exact hO6
              go_wp2
              go_roundg (ts.length - (k + 1))
              case rel => exact ⟨k + 1, rfl, by omega, by go_num, hO6', hfr6⟩
              case measure => omega
      · obtain rfl : k = ts.length := by omega
        go_wp2
        go_ret
        exact ⟨_, rfl, by simpa using hO.flatSL, hfr⟩
end Go.Proofs.Ytkfpoagjlaldgaa

