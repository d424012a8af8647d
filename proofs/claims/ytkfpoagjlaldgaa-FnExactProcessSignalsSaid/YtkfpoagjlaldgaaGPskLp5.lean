/- Contracts of the functions of the program and of the reference, each proved by a walk through its code. -/
import Derived.Test.YtkfpoagjlaldgaaGPskLp4
set_option linter.all false
set_option maxRecDepth 20000
namespace Go.Proofs.Ytkfpoagjlaldgaa
open Go.RowKit

theorem quiet_left {P : Program} {f : FuncId} {args : Array Value} {w : World} {n : Nat} {v : Value}
    (h : Calls P f args (w.drewN n) fun e w' => e = .returned v ∧ w.drewN n = w') : Calls P f args (w.drewN n) fun e w'' => e = .returned v ∧ ∃ m, w'' = w.drewN m :=
  h.mono fun _ _ ⟨he, hm⟩ => ⟨he, n, hm.symm⟩

/-- 'string([]byte{m})'. -/
theorem Try.conv1 (w : World) (m : UInt8) : (convert 63 9 (.slice (some ⟨w.heap.size, 0, none⟩) 1 1)).run Try.prog (w.alloc (.cells #[.int .u8 (m.toNat : Int)] 5)) = .ok (.string (bs [m])) (w.alloc (.cells #[.int .u8 (m.toNat : Int)] 5)) := by
  have hb : Blk (w.alloc (.cells #[.int .u8 (m.toNat : Int)] 5)) w.heap.size 5 [.int .u8 (m.toNat : Int)] := Blk.new w _ _
  refine run_convert_bytes_back _ 63 9 5 ⟨w.heap.size, 0, none⟩ 1 [m] Try.underlying63 Try.underlying5 Try.underlying9 (fun j hj => ?_)
  have hj0 : j = 0 := by simp at hj; omega
  subst hj0
  exact hb.cell 0 rfl
def hsWords : List ByteArray := [bs [114, 43], bs [97, 43], bs [114, 45], bs [97, 45]]
theorem hsWords_size {x : ByteArray} (h : x ∈ hsWords) : x.size = 2 := by
  simp only [hsWords, List.mem_cons, List.not_mem_nil, or_false] at h
  rcases h with rfl | rfl | rfl | rfl <;> rfl
def hsNodes (nm : ByteArray) (k : Nat) : List Nd := (hsWords.take k).map fun x => ⟨nm ++ x, false, []⟩
def hsKids (base k : Nat) : List Int := (List.range k).map fun q => ((base + q : Nat) : Int)
theorem hsNodes_len (nm : ByteArray) {k : Nat} (hk : k ≤ 4) : (hsNodes nm k).length = k := by simp [hsNodes, hsWords]; omega
theorem hsNodes_succ (nm : ByteArray) {k : Nat} {x : ByteArray} (hx : hsWords[k]? = some x) : hsNodes nm (k + 1) = hsNodes nm k ++ [⟨nm ++ x, false, []⟩] := by
  simp [hsNodes, List.take_add_one, hx]
theorem hsKids_succ (base k : Nat) : hsKids base (k + 1) = hsKids base k ++ [((base + k : Nat) : Int)] := by simp [hsKids, List.range_succ]
theorem lay_hs {base : Nat} {nm : ByteArray} {m : UInt8} (h : (m == 43 || m == 45) = false) : lay base (.edge nm m) = hsNodes nm 4 ++ [⟨bs [], true, hsKids base 4⟩] := by
  simp [lay, layEdge, h, hsNodes, hsWords, hsKids, List.range_succ]
theorem parse_leaf {s : ByteArray} {f i j : Nat} {nm : ByteArray} {m : UInt8} (hx : nx s i ≠ 40) (hj : scanN (nx s) 1001 i = j) (hn : s.extract i j = nm) (hm : nx s j = m) (hij : i ≤ j) (hjs : j ≤ s.size) :
    parsePart (nx s) (f + 1) i = if leafOk nm m then some (.edge nm m, j + 1) else none := by
  have e : cut (nx s) i j = nm := by rw [← hn, extract_cut hij hjs]
  simp only [parsePart, hx, if_neg, hj, e, hm, not_false_eq_true]

set_option maxHeartbeats 4000000 in
set_option maxRecDepth 100000 in
theorem lpart_leaf (f : Nat) (s : ByteArray) (b : Nat) (K : Nat → Prop) (i : Nat) (ns : List Nd) (deep most : Nat) (w : World) (hp : LP w b K s i false ns deep most) (hK : ∀ k, w.heap.size ≤ k → K k) (hKb : ¬ K b) (hi : i ≤ s.size) (hs : s.size ≤ 1000)
    (hns : ns.length ≤ 6 * i) (hdm : deep ≤ most) (hdi : deep ≤ i) (hx : nx s i ≠ 40) : Calls Try.prog 40 #[.pointer (some ⟨b, 0, none⟩)] w (LPPost (f + 1) s b K i ns deep most w) := by
  have hbw := hp.lt
  have HX := Lib.hid hx
  have HKK := Lib.hid hK
  have HKb := Lib.hid hKb
  obtain ⟨nv, hb, hN⟩ := hp
  obtain ⟨x1, x2⟩ := nx_ne (k := 40) rfl hx
  have hc1 := hb.cell 1 rfl
  clear hK hKb hx
  go_enter Try.func40, Try.ntmps40
  go_upto_block 0 with (go_at_call 39; refine (peek_any b s i false nv deep most _ hb (by omega) hs).mono ?_; rintro e w2 ⟨rfl, n, rfl⟩)
  go_cut [18] (fun _ wx => ∃ j, i ≤ j ∧ j ≤ s.size ∧ LB wx b s j false nv deep most ∧ Fr [b] w wx ∧ scanN (nx s) 1001 i = j)
  case first =>
    go_wp2
    go_loopg [18] (s.size - i) (fun m _ wr => ∃ j, m = s.size - j ∧ i ≤ j ∧ j ≤ s.size ∧ LB wr b s j false nv deep most ∧ Fr [b] w wr ∧ (∀ k, i ≤ k → k < j → chName (nx s k) = true))
    case atStart => exact ⟨i, rfl, Nat.le_refl _, hi, hb.drewN _, (Fr.refl _ w).drewN _, fun k h1 h2 => by omega⟩
    case round =>
      obtain ⟨j, rfl, h1, h2, hp, hfr, hall⟩ := hrel
      have HA := Lib.hid hall
      have hw1 := hp.cell 1 rfl
      have hw1f := hp.free 1
      clear hall
      have hstop : chName (nx s j) = false → scanN (nx s) 1001 i = j := fun hc => scanN_eq hc h1 (by omega) HA.out
      have hgo : chName (nx s j) = true → j < s.size ∧ ∀ k, i ≤ k → k < j + 1 → chName (nx s k) = true := fun hc =>
        ⟨nx_lt2 (fun h0 => by rw [h0] at hc; exact absurd hc (by decide)), fun k hk hkj => by
          by_cases he : k = j
          · subst he; exact hc
          · exact HA.out k hk (by omega)⟩
      rcases byte_sorts (nx s j) with ⟨g1, g2, g3, g4⟩ | ⟨g1, g2, g5, g3, g4⟩ | ⟨g1, g2, g5, g3, g4⟩ | ⟨g1, g6, g2, g5, g3, g4⟩ | ⟨g1, g6, g2, g5, g3, g4⟩
      all_goals first
        | (have HS := Lib.hid (hstop g3)
           clear hstop hgo g3 g4
           go_wp2_with (go_at_call 39; refine (peek_any b s j false nv deep most _ (by first | exact hp | exact Blk.drewN hp _) (by omega) hs).mono ?_; rintro e w2 ⟨rfl, n, rfl⟩)
           go_meet
           exact ⟨j, h1, h2, hp.drewN _, hfr.drewN _, HS.out⟩)
        | (obtain ⟨hlt, hs'⟩ := hgo g3
           have HS := Lib.hid hs'
           clear hstop hgo g3 g4 hs'
           have hp' : ∀ n, LB ((wr.setCell ⟨b, 1, none⟩ (.int .i64 ((j + 1 : Nat) : Int))).drewN n) b s (j + 1) false nv deep most := fun n => (hp.set 1 _).drewN n
           have hfr' := fun n => (hfr.setCell (p := ⟨b, 1, none⟩) (.inl (by simp)) (.int .i64 ((j + 1 : Nat) : Int))).drewN n
           have HP' := Lib.hid hp'
           have HF' := Lib.hid hfr'
           clear hp' hfr'
           go_wp2_with (go_at_call 39; refine (peek_any b s j false nv deep most _ (by first | exact hp | exact Blk.drewN hp _) (by omega) hs).mono ?_; rintro e w2 ⟨rfl, n, rfl⟩)
           go_roundg (s.size - (j + 1))
           case rel => exact ⟨j + 1, rfl, by omega, by omega, HP'.out _, HF'.out _, HS.out⟩
           case measure => omega)
  case rest =>
    obtain ⟨j, h1, h2, hb1, hfr, hj⟩ := hcut
    obtain ⟨wb, rfl⟩ : ∃ wb : World, wb = wc := ⟨_, rfl⟩
    have HJ := Lib.hid hj
    have hc0 := hb1.cell 0 rfl
    have hc1' := hb1.cell 1 rfl
    have hcf1 := hb1.free 1
    have hmi : min (i : Int) (s.size : Int) = i := by omega
    have hmj : min (j : Int) (s.size : Int) = j := by omega
    have b0 : (0 : Int) ≤ (i : Int) := by omega
    have b1 : (i : Int) ≤ (j : Int) := by omega
    have b2 : (j : Int) ≤ (s.size : Int) := by omega
    clear hj hb hc1
    go_upto_region 6 with fail
    go_quiet ((go_at_call 47; exact quiet_left (least_any _ _ _)))
    go_upto_block 2 with (go_at_call 39; refine (peek_any b s j false nv deep most _ (by exact Blk.drewN hb1 _) (by omega) hs).mono ?_; rintro e w2 ⟨rfl, n, rfl⟩)
    have hbW : LB ((wb.setCell ⟨b, 1, none⟩ (.int .i64 ((j : Int) + 1))).drewN (nq + n)) b s (j + 1) false nv deep most := (hb1.set 1 _).drewN _
    have hfW : Fr [b] w ((wb.setCell ⟨b, 1, none⟩ (.int .i64 ((j : Int) + 1))).drewN (nq + n)) := (hfr.setCell (by simp) _).drewN _
    generalize (wb.setCell ⟨b, 1, none⟩ (.int .i64 ((j : Int) + 1))).drewN (nq + n) = W at *
    have hnz : (s.extract i j).size ≤ 1000 := by rw [ByteArray.size_extract]; omega
    have hPL := parse_leaf (f := f) (nm := s.extract i j) (m := nx s j) HX.out HJ.out rfl rfl h1 h2
    generalize s.extract i j = nm at *
    have hm0 : leafOk nm (nx s j) = true → j < s.size := fun h => nx_lt2 (fun h0 => by rw [h0] at h; simp [leafOk] at h)
    generalize nx s j = m at *
    have HPL := Lib.hid hPL
    have HM0 := Lib.hid hm0
    clear hPL hm0 hc0 hc1' hcf1 hmi hmj
    have hbad : leafOk nm m = false → ∀ W', LB W' b s (j + 1) true nv deep most → Fr [b] W W' → LPPost (f + 1) s b K i ns deep most w (.returned (.int .i64 0)) W' := by
      intro hl W' hB hF
      refine ⟨0, j + 1, true, ns, most, rfl, by unfold I64; omega, ⟨nv, hB, (hN.frame (hfW.trans hF) (fun g hg hm => HKb.out (by simp at hm; subst hm; exact (hN.lt hg).1)) (fun k hk hh => HKb.out (by simp at hk; subst hk; exact hh.1)))⟩, (FrK.refl b K w).fr (hfW.trans hF) (by simp), by omega, by omega, by omega, hdm, (fun h => by cases h), ?_⟩
      rw [HPL.out, hl]
      simp [POut]
    have HBAD := Lib.hid hbad
    clear hbad
    have hw2 := hbW.cell 2 rfl
    have hw2f := hbW.free 2
    cases hn : nameOk nm.data.toList with
    | false =>
      have HN' := Lib.hid hn
      clear hn
      go_wp2_with (go_at_call 48; refine (l2Name_any nm _ (by omega)).mono ?_; rintro e w2 ⟨rfl, rfl⟩; rw [HN'.out])
      go_ret
      exact HBAD.out (by simp [leafOk, HN'.out]) _ (Blk.set (Blk.set hbW 2 _) 2 _) (((Fr.refl _ _).setCell (by simp) _).setCell (by simp) _)
    | true =>
      have HN' := Lib.hid hn
      clear hn
      have hplus : (m == 43 || m == 45) = true → ∀ W', LB W' b s (j + 1) false nv deep most → Fr [b] W W' →
          Calls Try.prog 41 #[.pointer (some ⟨b, 0, none⟩), .agg #[.string (nm ++ bs [m]), .bool false, .slice none 0 0]] W' fun e w' => ∃ v, e = .returned v ∧ LPPost (f + 1) s b K i ns deep most w (.returned v) w' := by
        intro he W' hB hF
        have hNW := hN.frame (hfW.trans hF) (fun g hg hm => HKb.out (by simp at hm; subst hm; exact (hN.lt hg).1)) (fun k hk hh => HKb.out (by simp at hk; subst hk; exact hh.1))
        have hl : leafOk nm m = true := by simp [leafOk, HN'.out, he]
        refine (node_any b K s (j + 1) false ns deep most ⟨nm ++ bs [m], false, []⟩ (.slice none 0 0) W' ⟨nv, hB, hNW⟩ (fun k hk => HKK.out k (by have := (hfW.trans hF).size; omega)) HKb.out ⟨_, rfl, ?_, SL.nil _ _ _ _⟩ (by omega)).mono ?_
        · simp only [ByteArray.size_append, maxLen]; have : (bs [m]).size = 1 := rfl; omega
        · rintro e w2 ⟨rfl, hp2, L, hf2, hL⟩
          refine ⟨_, rfl, (ns.length : Int), j + 1, false, _, most, rfl, by unfold I64; omega, hp2, ((FrK.refl b K w).fr (hfW.trans hF) (by simp)).trans ⟨L, hf2, hL⟩, by omega, by omega, by simp; omega, hdm, fun _ => by have := HM0.out hl; omega, ?_⟩
          rw [HPL.out, hl, if_pos rfl]
          refine ⟨rfl, rfl, by simp [lay, layEdge, he], by simp [dep]; omega, by simp [lay, layEdge, he]⟩
      have HPLUS := Lib.hid hplus
      clear hplus
      have hcv := Try.conv1
      have hbm : (bs [m]).size = 1 := rfl
      rcases mark_sorts m with ⟨g1, e1, e2⟩ | ⟨g1, g2, e1, e2⟩ | ⟨g1, g2, g3, e1, e2⟩ | ⟨g1, g2, g3, g4, e1, e2⟩ | ⟨g1, g2, g3, g4, e1, e2⟩
      · have E2 := Lib.hid e2
        have E1 := Lib.hid e1
        clear e1 e2 hcv hbm
        have hg : ((m.toNat : Int) == 43) = false := by have := E1.out; simp only [Bool.or_eq_false_iff, beq_eq_false_iff_ne] at this; simp; intro h; exact this.1 (UInt8.toNat_inj.1 (by have : (43 : UInt8).toNat = 43 := rfl; omega))
        have hg' : ((m.toNat : Int) == 45) = false := by have := E1.out; simp only [Bool.or_eq_false_iff, beq_eq_false_iff_ne] at this; simp; intro h; exact this.2 (UInt8.toNat_inj.1 (by have : (45 : UInt8).toNat = 45 := rfl; omega))
        by_cases hz : nm.size ≤ 5
        · have hz' : decide ((nm.size : Int) < 6) = true := by simp; omega
          have E := Lib.hid (show leafOk nm m = true by have := E2.out; simp [leafOk, HN'.out, this, hz])
          go_upto_block 3 with (go_at_call 48; refine (l2Name_any nm _ (by omega)).mono ?_; rintro e w2 ⟨rfl, rfl⟩; rw [HN'.out])
          have hws := (hfW.trans ((Fr.refl _ W).alloc (.cells #[.string (bs [114, 43]), .string (bs [97, 43]), .string (bs [114, 45]), .string (bs [97, 45])] 9))).size
          have hwz := hfW.size
          have hbG : b ≠ W.heap.size := by have := hbW.lt; omega
          go_cut [6] (fun v wx => LP wx b K s (j + 1) false (ns ++ hsNodes nm 4) deep most ∧ Own K (fun _ => False) 3 Ty.int wx v (hsKids ns.length 4) ∧ FrK b K w wx)
          case first =>
            go_wp2
            go_loopg [6, 110, 8] 4 (fun mm v iv _ wr => ∃ k, mm = 4 - k ∧ k ≤ 4 ∧ iv = .int .i64 k ∧ LP wr b (fun q => K q ∧ v.ownBlock ≠ some q ∧ q ≠ W.heap.size) s (j + 1) false (ns ++ hsNodes nm k) deep most ∧ Own K (fun _ => False) 3 Ty.int wr v (hsKids ns.length k) ∧
              (∀ g, v.ownBlock = some g → g ≠ W.heap.size) ∧ FrK b K w wr ∧ Blk wr W.heap.size 9 (hsWords.map Value.string))
            case atStart =>
              have hB0 := Blk.alloc hbW (.cells #[.string (bs [114, 43]), .string (bs [97, 43]), .string (bs [114, 45]), .string (bs [97, 45])] 9)
              have hNA := (hN.frame hfW (fun g hg hm => HKb.out (by simp at hm; subst hm; exact (hN.lt hg).1)) (fun k hk hh => HKb.out (by simp at hk; subst hk; exact hh.1))).bound.frame ((Fr.refl [] W).alloc (.cells #[.string (bs [114, 43]), .string (bs [97, 43]), .string (bs [114, 45]), .string (bs [97, 45])] 9)) (by simp) (by simp)
              refine ⟨0, rfl, by omega, rfl, ⟨nv, hB0, ?_⟩, Own.nil _ _ _ _ _, (fun g hg => by simp [Value.ownBlock] at hg), ((FrK.refl b K w).fr hfW (by simp)).fr ((Fr.refl [] W).alloc _) (by simp), Blk.new W _ _⟩
              simp only [hsNodes, List.take_zero, List.map_nil, List.append_nil]
              exact hNA.mono (fun k hk => ⟨hk.1, by simp [Value.ownBlock], by omega⟩) (fun k hk => ⟨hk.1, by simp [Value.ownBlock], by omega⟩)
            case round =>
              obtain ⟨k, rfl, hk4, rfl, hp, hO, hOg, hfr, hL⟩ := hrel
              obtain ⟨a0, cap0, rfl⟩ := hO.form
              have hkl : (hsKids ns.length k).length = k := by simp [hsKids]
              have HOG := Lib.hid hOg
              clear hOg
              by_cases hlt : k < 4
              · obtain ⟨x, hx⟩ : ∃ x, hsWords[k]? = some x := ⟨_, List.getElem?_eq_getElem (by simpa [hsWords] using hlt)⟩
                have hxs := hsWords_size (List.mem_of_getElem? hx)
                have hcell := hL.cell k (v := .string x) (by rw [List.getElem?_map, hx]; rfl)
                have HXK := Lib.hid hx
                have hnl : (ns ++ hsNodes nm k).length = ns.length + k := by rw [List.length_append, hsNodes_len nm hk4]
                have HNL := Lib.hid hnl
                have HKL := Lib.hid hkl
                clear hx hnl hkl
                go_wp2_with (first
                  | (go_at_call 41; refine (node_any b _ s (j + 1) false (ns ++ hsNodes nm k) deep most ⟨nm ++ x, false, []⟩ (.slice none 0 0) _ hp (fun q hq => ⟨HKK.out q (by have := hfr.size; omega), fun hv => by have := (hO.lt hv).2; omega, fun hq' => by have := hL.lt; omega⟩) (fun h => HKb.out h.1) ⟨_, rfl, ?ho1, SL.nil _ _ _ _⟩ ?ho2).mono ?_; rotate_left 2; rintro e w2 ⟨he, hp2, L2, hf2, hL2⟩; obtain ⟨ix, hix⟩ : ∃ ix : Int, ix = ((ns ++ hsNodes nm k).length : Int) := ⟨_, rfl⟩; rw [← hix] at he; subst he; have HIX := Lib.hid hix; clear hix)
                  | (at_builtin; refine wpList_append_Own (P := Try.prog) (by rfl) (.tmp 114) (.tmp 121) 66 (by rfl) (T := Ty.int) (l := hsKids ns.length k) (y := ix) (v := .slice a0 (hsKids ns.length k).length cap0) (tb := w2.heap.size) (c := 1) (cs := [.int .i64 ix]) Try.inf_int (by rfl) ((hO.frK ⟨L2, hf2, hL2⟩ (fun g hg => ⟨fun hb => HKb.out (hb ▸ (hO.lt hg).1), fun hh => hh.2.1 hg⟩)).frame ((Fr.refl [] w2).alloc _) (by simp) (by simp)) (by rfl) (heap_alloc_new w2 _) ⟨rfl, ?o2⟩ ?_ ?o3 ?o4 ?o5; rotate_left 1; intro p cap w5 hO5 hf5 hat))
                case ho1 => simp only [maxLen]; omega
                case ho2 => rw [HNL.out]; omega
                case o2 => unfold I64; rw [HIX.out, HNL.out]; omega
                case o3 => exact HKK.out _ (by have := hfr.size; have := hf2.size; simp; omega)
                case o4 => rw [HKL.out]; simp only [maxLen]; omega
                case o5 => rw [HKL.out]; omega
                · have hgb : ∀ g, (Value.slice a0 (hsKids ns.length k).length cap0).ownBlock = some g → K g ∧ g < wr.heap.size := fun g hg => hO.lt hg
                  have hz2 := hf2.size
                  have hLlt := hL.lt
                  have hp5 : LP w5 b (fun q => K q ∧ (Value.slice p ((hsKids ns.length k).length + 1) cap).ownBlock ≠ some q ∧ q ≠ W.heap.size) s (j + 1) false (ns ++ hsNodes nm (k + 1)) deep most := by
                    have hq := (hp2.bound.frame ((Fr.refl [] w2).alloc (.cells #[.int .i64 ix] 3)) (by simp) (by simp)).frame hf5 (fun hm => HKb.out (hgb b (by simpa using hm)).1) (fun k hk hh => hh.1.2.1 (by simpa using hk))
                    rw [hsNodes_succ nm HXK.out, ← List.append_assoc]
                    refine hq.mono (fun q hk => ⟨hk.1.1, fun hv => ?_, hk.1.2.2⟩)
                    rcases hat with hat | hat
                    · exact hk.1.2.1 (hat ▸ hv)
                    · rw [hat] at hv; simp at hv; have := hk.2; omega
                  have hfr5 : FrK b K w w5 := ((hfr.trans (FrK.mono ⟨L2, hf2, hL2⟩ (fun k hk => hk.1))).fr ((Fr.refl [] w2).alloc (.cells #[.int .i64 ix] 3)) (by simp)).fr hf5 (fun k hk => .inr (hgb k (by simpa using hk)).1)
                  have hO5' : Own K (fun _ => False) 3 Ty.int w5 (.slice p ((hsKids ns.length k).length + 1) cap) (hsKids ns.length (k + 1)) := by
                    rw [hsKids_succ, show ((ns.length + k : Nat) : Int) = ix by rw [HIX.out, HNL.out]]
                    exact hO5
                  have hOg5 : ∀ g, (Value.slice p ((hsKids ns.length k).length + 1) cap).ownBlock = some g → g ≠ W.heap.size := by
                    intro g hg
                    rcases hat with hat | hat
                    · exact HOG.out g (hat ▸ hg)
                    · rw [hat] at hg; simp at hg; omega
                  have hL5 : Blk w5 W.heap.size 9 (hsWords.map Value.string) :=
                    Blk.fr (Blk.alloc (Blk.fr hL hf2 (fun hm => by rcases hL2 _ hm with h | h
                                                                   · exact hbG h.symm
                                                                   · exact h.2.2 rfl)) _) hf5 (fun hm => HOG.out W.heap.size (by simpa using hm) rfl)
                  have HOG5 := Lib.hid hOg5
                  clear hOg5 hat hgb hO5 hxs hcell
                  go_roundg (4 - (k + 1))
                  case rel => exact ⟨k + 1, rfl, by omega, rfl, hp5, hO5', HOG5.out, hfr5, hL5⟩
                  case measure => omega
              · obtain rfl : k = 4 := by omega
                clear hkl
                go_wp2_with fail
                go_meet
                exact ⟨hp.mono (fun q hq => hq.1), hO, hfr⟩
          case rest =>
            obtain ⟨hp, hO, hfr⟩ := hcut
            obtain ⟨a0, cap0, rfl⟩ := hO.form
            have hnl : (ns ++ hsNodes nm 4).length = ns.length + 4 := by rw [List.length_append, hsNodes_len nm (by omega)]
            have HNL := Lib.hid hnl
            have hsl := (hO.sl.mono (fun k hk => hk.elim id False.elim) : SL K 3 Ty.int _ _ (hsKids ns.length 4))
            clear hnl
            go_wp2_with (go_at_call 41; refine (node_any b K s (j + 1) false (ns ++ hsNodes nm 4) deep most ⟨bs [], true, hsKids ns.length 4⟩ _ _ hp (fun k hk => HKK.out k (by have := hfr.size; omega)) HKb.out ⟨_, rfl, Nat.zero_le _, hsl⟩ (by rw [HNL.out]; omega)).mono ?_; rintro e w2 ⟨he, hp2, L, hf2, hL⟩; obtain ⟨ix, hix⟩ : ∃ ix : Int, ix = ((ns ++ hsNodes nm 4).length : Int) := ⟨_, rfl⟩; rw [← hix] at he; subst he; have HIX := Lib.hid hix; clear hix)
            go_ret
            refine ⟨ix, j + 1, false, _, most, rfl, by unfold I64; rw [HIX.out, HNL.out]; omega, hp2, hfr.trans ⟨L, hf2, hL⟩, by omega, by omega, by rw [List.length_append, HNL.out]; simp; omega, hdm, fun _ => by have := HM0.out E.out; omega, ?_⟩
            rw [HPL.out, E.out, if_pos rfl]
            refine ⟨rfl, rfl, by rw [lay_hs E1.out, List.append_assoc], by simp [dep]; omega, by rw [HIX.out, HNL.out, lay_hs E1.out, List.length_append, hsNodes_len nm (by omega)]; simp⟩
        · have hz' : decide ((nm.size : Int) < 6) = false := by simp; omega
          have E := Lib.hid (show leafOk nm m = false by have := E1.out; simp [leafOk, HN'.out, this]; intro _; omega)
          go_wp2_with (go_at_call 48; refine (l2Name_any nm _ (by omega)).mono ?_; rintro e w2 ⟨rfl, rfl⟩; rw [HN'.out])
          go_ret
          exact HBAD.out E.out _ (Blk.set hbW 2 _) ((Fr.refl _ _).setCell (by simp) _)
      · have E2 := Lib.hid e2
        have E1 := Lib.hid e1
        clear e1 e2 hcv hbm
        have hg : ((m.toNat : Int) == 43) = false := by have := E1.out; simp only [Bool.or_eq_false_iff, beq_eq_false_iff_ne] at this; simp; intro h; exact this.1 (UInt8.toNat_inj.1 (by have : (43 : UInt8).toNat = 43 := rfl; omega))
        have hg' : ((m.toNat : Int) == 45) = false := by have := E1.out; simp only [Bool.or_eq_false_iff, beq_eq_false_iff_ne] at this; simp; intro h; exact this.2 (UInt8.toNat_inj.1 (by have : (45 : UInt8).toNat = 45 := rfl; omega))
        by_cases hz : nm.size ≤ 5
        · have hz' : decide ((nm.size : Int) < 6) = true := by simp; omega
          have E := Lib.hid (show leafOk nm m = true by have := E2.out; simp [leafOk, HN'.out, this, hz])
          go_upto_block 3 with (go_at_call 48; refine (l2Name_any nm _ (by omega)).mono ?_; rintro e w2 ⟨rfl, rfl⟩; rw [HN'.out])
          have hws := (hfW.trans ((Fr.refl _ W).alloc (.cells #[.string (bs [114, 43]), .string (bs [97, 43]), .string (bs [114, 45]), .string (bs [97, 45])] 9))).size
          have hwz := hfW.size
          have hbG : b ≠ W.heap.size := by have := hbW.lt; omega
          go_cut [6] (fun v wx => LP wx b K s (j + 1) false (ns ++ hsNodes nm 4) deep most ∧ Own K (fun _ => False) 3 Ty.int wx v (hsKids ns.length 4) ∧ FrK b K w wx)
          case first =>
            go_wp2
            go_loopg [6, 110, 8] 4 (fun mm v iv _ wr => ∃ k, mm = 4 - k ∧ k ≤ 4 ∧ iv = .int .i64 k ∧ LP wr b (fun q => K q ∧ v.ownBlock ≠ some q ∧ q ≠ W.heap.size) s (j + 1) false (ns ++ hsNodes nm k) deep most ∧ Own K (fun _ => False) 3 Ty.int wr v (hsKids ns.length k) ∧
              (∀ g, v.ownBlock = some g → g ≠ W.heap.size) ∧ FrK b K w wr ∧ Blk wr W.heap.size 9 (hsWords.map Value.string))
            case atStart =>
              have hB0 := Blk.alloc hbW (.cells #[.string (bs [114, 43]), .string (bs [97, 43]), .string (bs [114, 45]), .string (bs [97, 45])] 9)
              have hNA := (hN.frame hfW (fun g hg hm => HKb.out (by simp at hm; subst hm; exact (hN.lt hg).1)) (fun k hk hh => HKb.out (by simp at hk; subst hk; exact hh.1))).bound.frame ((Fr.refl [] W).alloc (.cells #[.string (bs [114, 43]), .string (bs [97, 43]), .string (bs [114, 45]), .string (bs [97, 45])] 9)) (by simp) (by simp)
              refine ⟨0, rfl, by omega, rfl, ⟨nv, hB0, ?_⟩, Own.nil _ _ _ _ _, (fun g hg => by simp [Value.ownBlock] at hg), ((FrK.refl b K w).fr hfW (by simp)).fr ((Fr.refl [] W).alloc _) (by simp), Blk.new W _ _⟩
              simp only [hsNodes, List.take_zero, List.map_nil, List.append_nil]
              exact hNA.mono (fun k hk => ⟨hk.1, by simp [Value.ownBlock], by omega⟩) (fun k hk => ⟨hk.1, by simp [Value.ownBlock], by omega⟩)
            case round =>
              obtain ⟨k, rfl, hk4, rfl, hp, hO, hOg, hfr, hL⟩ := hrel
              obtain ⟨a0, cap0, rfl⟩ := hO.form
              have hkl : (hsKids ns.length k).length = k := by simp [hsKids]
              have HOG := Lib.hid hOg
              clear hOg
              by_cases hlt : k < 4
              · obtain ⟨x, hx⟩ : ∃ x, hsWords[k]? = some x := ⟨_, List.getElem?_eq_getElem (by simpa [hsWords] using hlt)⟩
                have hxs := hsWords_size (List.mem_of_getElem? hx)
                have hcell := hL.cell k (v := .string x) (by rw [List.getElem?_map, hx]; rfl)
                have HXK := Lib.hid hx
                have hnl : (ns ++ hsNodes nm k).length = ns.length + k := by rw [List.length_append, hsNodes_len nm hk4]
                have HNL := Lib.hid hnl
                have HKL := Lib.hid hkl
                clear hx hnl hkl
                go_wp2_with (first
                  | (go_at_call 41; refine (node_any b _ s (j + 1) false (ns ++ hsNodes nm k) deep most ⟨nm ++ x, false, []⟩ (.slice none 0 0) _ hp (fun q hq => ⟨HKK.out q (by have := hfr.size; omega), fun hv => by have := (hO.lt hv).2; omega, fun hq' => by have := hL.lt; omega⟩) (fun h => HKb.out h.1) ⟨_, rfl, ?ho1, SL.nil _ _ _ _⟩ ?ho2).mono ?_; rotate_left 2; rintro e w2 ⟨he, hp2, L2, hf2, hL2⟩; obtain ⟨ix, hix⟩ : ∃ ix : Int, ix = ((ns ++ hsNodes nm k).length : Int) := ⟨_, rfl⟩; rw [← hix] at he; subst he; have HIX := Lib.hid hix; clear hix)
                  | (at_builtin; refine wpList_append_Own (P := Try.prog) (by rfl) (.tmp 114) (.tmp 121) 66 (by rfl) (T := Ty.int) (l := hsKids ns.length k) (y := ix) (v := .slice a0 (hsKids ns.length k).length cap0) (tb := w2.heap.size) (c := 1) (cs := [.int .i64 ix]) Try.inf_int (by rfl) ((hO.frK ⟨L2, hf2, hL2⟩ (fun g hg => ⟨fun hb => HKb.out (hb ▸ (hO.lt hg).1), fun hh => hh.2.1 hg⟩)).frame ((Fr.refl [] w2).alloc _) (by simp) (by simp)) (by rfl) (heap_alloc_new w2 _) ⟨rfl, ?o2⟩ ?_ ?o3 ?o4 ?o5; rotate_left 1; intro p cap w5 hO5 hf5 hat))
                case ho1 => simp only [maxLen]; omega
                case ho2 => rw [HNL.out]; omega
                case o2 => unfold I64; rw [HIX.out, HNL.out]; omega
                case o3 => exact HKK.out _ (by have := hfr.size; have := hf2.size; simp; omega)
                case o4 => rw [HKL.out]; simp only [maxLen]; omega
                case o5 => rw [HKL.out]; omega
                · have hgb : ∀ g, (Value.slice a0 (hsKids ns.length k).length cap0).ownBlock = some g → K g ∧ g < wr.heap.size := fun g hg => hO.lt hg
                  have hz2 := hf2.size
                  have hLlt := hL.lt
                  have hp5 : LP w5 b (fun q => K q ∧ (Value.slice p ((hsKids ns.length k).length + 1) cap).ownBlock ≠ some q ∧ q ≠ W.heap.size) s (j + 1) false (ns ++ hsNodes nm (k + 1)) deep most := by
                    have hq := (hp2.bound.frame ((Fr.refl [] w2).alloc (.cells #[.int .i64 ix] 3)) (by simp) (by simp)).frame hf5 (fun hm => HKb.out (hgb b (by simpa using hm)).1) (fun k hk hh => hh.1.2.1 (by simpa using hk))
                    rw [hsNodes_succ nm HXK.out, ← List.append_assoc]
                    refine hq.mono (fun q hk => ⟨hk.1.1, fun hv => ?_, hk.1.2.2⟩)
                    rcases hat with hat | hat
                    · exact hk.1.2.1 (hat ▸ hv)
                    · rw [hat] at hv; simp at hv; have := hk.2; omega
                  have hfr5 : FrK b K w w5 := ((hfr.trans (FrK.mono ⟨L2, hf2, hL2⟩ (fun k hk => hk.1))).fr ((Fr.refl [] w2).alloc (.cells #[.int .i64 ix] 3)) (by simp)).fr hf5 (fun k hk => .inr (hgb k (by simpa using hk)).1)
                  have hO5' : Own K (fun _ => False) 3 Ty.int w5 (.slice p ((hsKids ns.length k).length + 1) cap) (hsKids ns.length (k + 1)) := by
                    rw [hsKids_succ, show ((ns.length + k : Nat) : Int) = ix by rw [HIX.out, HNL.out]]
                    exact hO5
                  have hOg5 : ∀ g, (Value.slice p ((hsKids ns.length k).length + 1) cap).ownBlock = some g → g ≠ W.heap.size := by
                    intro g hg
                    rcases hat with hat | hat
                    · exact HOG.out g (hat ▸ hg)
                    · rw [hat] at hg; simp at hg; omega
                  have hL5 : Blk w5 W.heap.size 9 (hsWords.map Value.string) :=
                    Blk.fr (Blk.alloc (Blk.fr hL hf2 (fun hm => by rcases hL2 _ hm with h | h
                                                                   · exact hbG h.symm
                                                                   · exact h.2.2 rfl)) _) hf5 (fun hm => HOG.out W.heap.size (by simpa using hm) rfl)
                  have HOG5 := Lib.hid hOg5
                  clear hOg5 hat hgb hO5 hxs hcell
                  go_roundg (4 - (k + 1))
                  case rel => exact ⟨k + 1, rfl, by omega, rfl, hp5, hO5', HOG5.out, hfr5, hL5⟩
                  case measure => omega
              · obtain rfl : k = 4 := by omega
                clear hkl
                go_wp2_with fail
                go_meet
                exact ⟨hp.mono (fun q hq => hq.1), hO, hfr⟩
          case rest =>
            obtain ⟨hp, hO, hfr⟩ := hcut
            obtain ⟨a0, cap0, rfl⟩ := hO.form
            have hnl : (ns ++ hsNodes nm 4).length = ns.length + 4 := by rw [List.length_append, hsNodes_len nm (by omega)]
            have HNL := Lib.hid hnl
            have hsl := (hO.sl.mono (fun k hk => hk.elim id False.elim) : SL K 3 Ty.int _ _ (hsKids ns.length 4))
            clear hnl
            go_wp2_with (go_at_call 41; refine (node_any b K s (j + 1) false (ns ++ hsNodes nm 4) deep most ⟨bs [], true, hsKids ns.length 4⟩ _ _ hp (fun k hk => HKK.out k (by have := hfr.size; omega)) HKb.out ⟨_, rfl, Nat.zero_le _, hsl⟩ (by rw [HNL.out]; omega)).mono ?_; rintro e w2 ⟨he, hp2, L, hf2, hL⟩; obtain ⟨ix, hix⟩ : ∃ ix : Int, ix = ((ns ++ hsNodes nm 4).length : Int) := ⟨_, rfl⟩; rw [← hix] at he; subst he; have HIX := Lib.hid hix; clear hix)
            go_ret
            refine ⟨ix, j + 1, false, _, most, rfl, by unfold I64; rw [HIX.out, HNL.out]; omega, hp2, hfr.trans ⟨L, hf2, hL⟩, by omega, by omega, by rw [List.length_append, HNL.out]; simp; omega, hdm, fun _ => by have := HM0.out E.out; omega, ?_⟩
            rw [HPL.out, E.out, if_pos rfl]
            refine ⟨rfl, rfl, by rw [lay_hs E1.out, List.append_assoc], by simp [dep]; omega, by rw [HIX.out, HNL.out, lay_hs E1.out, List.length_append, hsNodes_len nm (by omega)]; simp⟩
        · have hz' : decide ((nm.size : Int) < 6) = false := by simp; omega
          have E := Lib.hid (show leafOk nm m = false by have := E1.out; simp [leafOk, HN'.out, this]; intro _; omega)
          go_wp2_with (go_at_call 48; refine (l2Name_any nm _ (by omega)).mono ?_; rintro e w2 ⟨rfl, rfl⟩; rw [HN'.out])
          go_ret
          exact HBAD.out E.out _ (Blk.set hbW 2 _) ((Fr.refl _ _).setCell (by simp) _)
      · have hg : ((m.toNat : Int) == 43) = true := by simpa using g3
        have E1 := Lib.hid e1
        clear e1 e2
        go_wp2_with (first
          | (go_at_call 48; refine (l2Name_any nm _ (by omega)).mono ?_; rintro e w2 ⟨rfl, rfl⟩; rw [HN'.out])
          | (go_at_call 41; refine (HPLUS.out E1.out _ (Blk.alloc hbW _) ((Fr.refl _ _).alloc _)).mono ?_; rintro e w3 ⟨v, rfl, hpost⟩))
        go_ret
        exact hpost
      · have hg : ((m.toNat : Int) == 43) = false := by simpa using g3
        have hg' : ((m.toNat : Int) == 45) = true := by simpa using g4
        have E1 := Lib.hid e1
        clear e1 e2
        go_wp2_with (first
          | (go_at_call 48; refine (l2Name_any nm _ (by omega)).mono ?_; rintro e w2 ⟨rfl, rfl⟩; rw [HN'.out])
          | (go_at_call 41; refine (HPLUS.out E1.out _ (Blk.alloc hbW _) ((Fr.refl _ _).alloc _)).mono ?_; rintro e w3 ⟨v, rfl, hpost⟩))
        go_ret
        exact hpost
      · have hg : ((m.toNat : Int) == 43) = false := by simpa using g3
        have hg' : ((m.toNat : Int) == 45) = false := by simpa using g4
        have E := Lib.hid (show leafOk nm m = false by simp [leafOk, e1, e2])
        clear e1 e2
        go_wp2_with (go_at_call 48; refine (l2Name_any nm _ (by omega)).mono ?_; rintro e w2 ⟨rfl, rfl⟩; rw [HN'.out])
        go_ret
        exact HBAD.out E.out _ (Blk.set hbW 2 _) ((Fr.refl _ _).setCell (by simp) _)

set_option maxHeartbeats 1000000 in
theorem lpart_br (f : Nat) (hP : ∀ f', f' ≤ f → LRC f') (s : ByteArray) (b : Nat) (K : Nat → Prop) (i : Nat) (ns : List Nd) (deep most : Nat) (w : World) (hp : LP w b K s i false ns deep most) (hK : ∀ k, w.heap.size ≤ k → K k) (hKb : ¬ K b) (hi : i ≤ s.size) (hs : s.size ≤ 1000) (hfs : f + 1 ≤ 3000)
    (hns : ns.length ≤ 6 * i) (hdm : deep ≤ most) (hdi : deep ≤ i) (hf : 2 * (s.size - i) + 1 ≤ f + 1) (hx : nx s i = 40) : Calls Try.prog 40 #[.pointer (some ⟨b, 0, none⟩)] w (LPPost (f + 1) s b K i ns deep most w) := by
  have HP := Lib.hid hP
  have HX := Lib.hid hx
  have HKK := Lib.hid hK
  have HKb := Lib.hid hKb
  obtain ⟨x1, x2⟩ := nx_eq (k := 40) rfl hx
  obtain ⟨nv, hb, hN⟩ := hp
  have hW : ∀ n, LP (w.drewN n) b K s i false ns deep most := fun n => ⟨nv, hb.drewN n, hN.frame ((Fr.refl [] w).drewN n) (by simp) (by simp)⟩
  have HW := Lib.hid hW
  clear hP hx hK hKb hN hW
  go_enter Try.func40, Try.ntmps40
  go_wp2_with (first
    | (go_at_call 39; refine (peek_any b s i false nv deep most _ hb (by omega) hs).mono ?_; rintro e w2 ⟨rfl, n, rfl⟩)
    | (go_at_call 46; refine (lbr_any f HP.out s b K i ns deep most _ (HW.out _) (by exact HKK.out) HKb.out hi hs hfs hns hdm hdi hf HX.out).mono ?_; rintro e w3 ⟨idx, i', bad', ns', most', rfl, q1, q2, q3, q4, q5, q6, q7, q8, q9⟩))
  go_ret
  exact ⟨idx, i', bad', ns', most', rfl, q1, q2, ((FrK.refl b K w).fr ((Fr.refl [] w).drewN _) (by simp)).trans q3, q4, q5, q6, q7, q8, q9⟩

/-- Part and row of the reference, whatever the fuel. -/
theorem lp_all : ∀ n f, f ≤ n → LPC f ∧ LRC f := by
  intro n
  induction n with
  | zero =>
    intro f hf
    refine ⟨fun s b K i ns deep most w hp hK hKb hi hs hfs h1 h2 h3 hle => ?_, fun s b K i ns deep most w hp hK hKb hi hs hfs h1 h2 h3 hle => ?_⟩ <;> omega
  | succ n ih =>
    intro f hf
    by_cases h0 : f = n + 1
    · subst h0
      have hP : LPC (n + 1) := by
        intro s b K i ns deep most w hp hK hKb hi hs hfs h1 h2 h3 hle
        by_cases hx : nx s i = 40
        · exact lpart_br n (fun f' hf' => (ih f' hf').2) s b K i ns deep most w hp hK hKb hi hs hfs h1 h2 h3 hle hx
        · exact lpart_leaf n s b K i ns deep most w hp hK hKb hi hs h1 h2 h3 hx
      exact ⟨hP, lrow_of_part n (fun f' hf' => (ih f' hf').1)⟩
    · exact ih f (by omega)
theorem lrow_any (f : Nat) : LRC f := (lp_all f f (Nat.le_refl _)).2
end Go.Proofs.Ytkfpoagjlaldgaa

