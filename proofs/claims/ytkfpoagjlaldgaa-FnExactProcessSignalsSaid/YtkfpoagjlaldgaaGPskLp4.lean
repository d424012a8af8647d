/- Contracts of the functions of the program and of the reference, each proved by a walk through its code. -/
import Derived.Test.YtkfpoagjlaldgaaGPskLp3
import Derived.Test.YtkfpoagjlaldgaaGPskPr4
set_option linter.all false
set_option maxRecDepth 20000
namespace Go.Proofs.Ytkfpoagjlaldgaa
open Go.RowKit

theorem ROut.row {o : Option (List Tr × Nat)} {ns ns' : List Nd} {deep most most' i' : Nat} {bad' : Bool} {idx : Int} (h : ROut o ns deep most i' bad' ns' most' idx) :
    ∃ ts, RowOut o ts i' bad' ∧ (bad' = false → ns' = ns ++ layRow ns.length ts ∧ most' = max most (deep + depRow ts) ∧ idx = ((ns.length + (layRow ns.length ts).length - 1 : Nat) : Int)) := by
  cases o with
  | none => exact ⟨[], h, fun hb => by simp only [ROut] at h; rw [h] at hb; cases hb⟩
  | some x =>
    obtain ⟨ts, j⟩ := x
    obtain ⟨h1, h2, h3, h4, h5⟩ := h
    exact ⟨ts, ⟨rfl, h2, h1⟩, fun _ => ⟨h3, h4, h5⟩⟩

theorem depRows_append (rs : List (List Tr)) (r : List Tr) : depRows (rs ++ [r]) = max (depRows rs) (1 + depRow r) := by
  induction rs with
  | nil => simp [depRows]
  | cons a rs ih => simp only [List.cons_append, depRows, ih]; omega
theorem layRows_len (rs : List (List Tr)) : ∀ base, (layRows base rs).2.length = rs.length := by
  induction rs with
  | nil => intro base; simp [layRows]
  | cons a rs ih => intro base; simp [layRows_cons, ih]

/-- At the head of the brackets' loop. -/
def LM (f : Nat) (s : ByteArray) (i j : Nat) (bd : Bool) (ns ns' : List Nd) (deep most most' : Nat) (kids : List Int) (rs : List (List Tr)) : Prop :=
  MoreSt f s i j bd rs ∧ (bd = false → ns' = ns ++ (layRows ns.length rs).1 ∧ kids = (layRows ns.length rs).2 ∧ most' = max (max most (deep + 1)) (deep + depRows rs))

theorem LM.start {f : Nat} {s : ByteArray} {i j : Nat} {bd : Bool} {ns ns' : List Nd} {deep most most' : Nat} {idx : Int} (hx : nx s i = 40) (hf : 2 * (s.size - j) + 1 ≤ f)
    (h : ROut (parseRow (nx s) f (i + 1)) ns (deep + 1) (max most (deep + 1)) j bd ns' most' idx) : ∃ rs, rs.length = 1 ∧ LM f s i j bd ns ns' deep most most' [idx] rs := by
  obtain ⟨ts, h1, h2⟩ := h.row
  refine ⟨[ts], rfl, MoreSt.start hx hf h1, fun hb => ?_⟩
  obtain ⟨e1, e2, e3⟩ := h2 hb
  refine ⟨by rw [e1]; simp [layRows, layRow], by rw [e3]; simp [layRows, layRow], by rw [e2]; simp only [depRows]; omega⟩

theorem LM.next {f : Nat} {s : ByteArray} {i j : Nat} {ns ns' : List Nd} {deep most most' : Nat} {kids : List Int} {rs : List (List Tr)} (h : LM f s i j false ns ns' deep most most' kids rs) (hx : nx s j = 124) (hj : j < s.size) :
    ∃ f', 2 * (s.size - (j + 1)) + 2 ≤ f' ∧ f' ≤ f ∧ ∀ j' bd' ns'' most'' idx, j + 1 ≤ j' → ROut (parseRow (nx s) f' (j + 1)) ns' (deep + 1) most' j' bd' ns'' most'' idx →
      ∃ rs', rs'.length = rs.length + 1 ∧ LM f s i j' bd' ns ns'' deep most most'' (kids ++ [idx]) rs' := by
  obtain ⟨f', h1, h2, h3⟩ := (h.1.next hx hj).2 rfl
  refine ⟨f', h1, h2, fun j' bd' ns'' most'' idx hj' ho => ?_⟩
  obtain ⟨ts, g1, g2⟩ := ho.row
  refine ⟨rs ++ [ts], by simp, h3 j' bd' ts hj' g1, fun hb => ?_⟩
  obtain ⟨e1, e2, e3⟩ := g2 hb
  obtain ⟨q1, q2, q3⟩ := h.2 rfl
  refine ⟨?_, ?_, ?_⟩
  · rw [e1, q1, layRows_append]; simp
  · rw [e3, q2, q1, layRows_append]; simp
  · rw [e2, q3, depRows_append]; omega

/-- What the brackets come to. -/
theorem LM.fin {f : Nat} {s : ByteArray} {i j : Nat} {bd : Bool} {ns ns' : List Nd} {deep most most' : Nat} {kids : List Int} {rs : List (List Tr)} (h : LM f s i j bd ns ns' deep most most' kids rs) (hx : bd = false → nx s j ≠ 124)
    {bad' : Bool} (hb : bad' = ((bd || !bNx s j 41) || decide (kids.length < 2))) :
    POut (parsePart (nx s) (f + 1) i) ns deep most (j + 1) bad' (ns' ++ [⟨bs [], false, kids⟩]) most' (ns'.length : Int) := by
  cases bd with
  | true => rw [h.1.1 rfl]; simp [POut, hb]
  | false =>
    obtain ⟨q1, q2, q3⟩ := h.2 rfl
    have hk : kids.length = rs.length := by rw [q2, layRows_len]
    rw [h.1.stop (hx rfl)]
    unfold finPar
    by_cases h2 : rs.length < 2
    · simp [h2, POut, hb, hk]
    · by_cases hc : nx s j = 41
      · simp only [h2, if_neg, hc, if_pos, POut, not_false_eq_true]
        refine ⟨by rw [hb, hk]; simp [bNx, hc]; omega, by trivial, ?_, ?_, ?_⟩
        · rw [q1, q2]; simp [lay]
        · have hpos : 1 ≤ depRows rs := by
            cases rs with
            | nil => simp at h2
            | cons a l => simp only [depRows]; omega
          rw [q3]; simp only [dep]; omega
        · rw [q1]; simp [lay]
      · simp [h2, hc, POut, hb, bNx]

set_option maxHeartbeats 2000000 in
set_option maxRecDepth 100000 in
theorem lbr_any (f : Nat) (hP : ∀ f', f' ≤ f → LRC f') (s : ByteArray) (b : Nat) (K : Nat → Prop) (i : Nat) (ns : List Nd) (deep most : Nat) (w : World) (hp : LP w b K s i false ns deep most) (hK : ∀ k, w.heap.size ≤ k → K k) (hKb : ¬ K b) (hi : i ≤ s.size) (hs : s.size ≤ 1000) (hfs : f + 1 ≤ 3000)
    (hns : ns.length ≤ 6 * i) (hdm : deep ≤ most) (hdi : deep ≤ i) (hf : 2 * (s.size - i) + 1 ≤ f + 1) (hx : nx s i = 40) : Calls Try.prog 46 #[.pointer (some ⟨b, 0, none⟩)] w (LPPost (f + 1) s b K i ns deep most w) := by
  have HP := Lib.hid hP
  have hbw := hp.lt
  have hi1 : i < s.size := nx_lt2 (by rw [hx]; decide)
  have HX := Lib.hid hx
  have HKK := Lib.hid hK
  have HKb := Lib.hid hKb
  clear hP hK hKb hx
  obtain ⟨nv, hb, hN⟩ := hp
  have hc1 := hb.cell 1 rfl
  have hc4 := hb.cell 4 rfl
  have hc5 := hb.cell 5 rfl
  have hg1 := hb.free 1
  have hg4 := hb.free 4
  have hg5 := hb.free 5
  go_enter Try.func46, Try.ntmps46
  go_upto_region 3 with fail
  go_cut [4] (fun _ wx => LP wx b K s (i + 1) false ns (deep + 1) (max most (deep + 1)) ∧ FrK b K w wx)
  case first =>
    have e : max (most : Int) ((deep : Int) + 1) = ((max most (deep + 1) : Nat) : Int) := by omega
    have E := Lib.hid e
    clear e
    go_region_with ((go_at_call 50; refine (most_any _ _ _).mono ?_; rintro e w' ⟨rfl, rfl⟩; rw [E.out]))
    all_goals
      go_wp2_with fail
      go_meet
      exact ⟨⟨nv, (((hb.set 1 _).set 4 _).set 5 _).drew, hN.frame ((((Fr.refl [b] w).setCell (by simp) _).setCell (by simp) _).setCell (by simp) _).drew (fun g hg hm => HKb.out (by simp at hm; subst hm; exact (hN.lt hg).1)) (fun k hk hh => HKb.out (by simp at hk; subst hk; exact hh.1))⟩,
        (FrK.refl b K w).fr ((((Fr.refl [b] w).setCell (by simp) _).setCell (by simp) _).setCell (by simp) _).drew (by simp)⟩
  case rest =>
    obtain ⟨hp, hfr⟩ := hcut
    have hz := hfr.size
    obtain ⟨wa, rfl⟩ : ∃ wa : World, wa = wc := ⟨_, rfl⟩
    clear hb hN hc1 hc4 hc5 hg1 hg4 hg5
    go_upto_block 0 with (go_at_call 34; refine (HP.out f (Nat.le_refl _) s b K (i + 1) ns (deep + 1) (max most (deep + 1)) _ hp (fun k hk => HKK.out k (by omega)) HKb.out (by omega) hs (by omega) (by omega) (by omega) (by omega) (by omega)).mono ?_; rintro e w1 ⟨idx, j, bd, ns1, most1, rfl, hI, hp1, hf1, k1, k2, k3, k4, k5, k6⟩)
    obtain ⟨rs, hrs, hLM⟩ := LM.start HX.out (by omega) k6
    have HLM := Lib.hid hLM
    have hz1 := hf1.size
    have hO1 : Own K (fun _ => False) 3 Ty.int (w1.alloc (.cells #[.int .i64 idx] 3)) (.slice (some ⟨w1.heap.size, 0, none⟩) 1 1) [idx] := Own.single (heap_alloc_new w1 _) (HKK.out _ (by omega)) ⟨rfl, hI⟩
    have hp1' : LP (w1.alloc (.cells #[.int .i64 idx] 3)) b (fun k => K k ∧ (Value.slice (some ⟨w1.heap.size, 0, none⟩) 1 1).ownBlock ≠ some k) s j bd ns1 (deep + 1) most1 :=
      (hp1.bound.frame ((Fr.refl [] w1).alloc _) (by simp) (by simp)).mono (fun k hk => ⟨hk.1, fun hv => by simp [Value.ownBlock] at hv; omega⟩)
    have hfr1 : FrK b K w (w1.alloc (.cells #[.int .i64 idx] 3)) := (hfr.trans hf1).fr ((Fr.refl [] w1).alloc _) (by simp)
    clear hLM k6 hp
    go_cut [3] (fun v wx => ∃ j bd ns' most' kids rs, LP wx b K s j bd ns' (deep + 1) most' ∧ Own K (fun _ => False) 3 Ty.int wx v kids ∧ FrK b K w wx ∧ i < j ∧ j ≤ s.size + 1 + 3 * f ∧ ns'.length ≤ 6 * j ∧ deep ≤ most' ∧ kids.length ≤ j ∧
      (bd = false → j ≤ s.size) ∧ LM f s i j bd ns ns' deep most most' kids rs ∧ (bd = false → nx s j ≠ 124))
    case first =>
      go_wp2
      go_loopg [3] (if bd then 0 else s.size + 2 - j) (fun m v wr => ∃ j bd ns' most' kids rs, m = (if bd then 0 else s.size + 2 - j) ∧ LP wr b (fun k => K k ∧ v.ownBlock ≠ some k) s j bd ns' (deep + 1) most' ∧ Own K (fun _ => False) 3 Ty.int wr v kids ∧ FrK b K w wr ∧
        i < j ∧ j ≤ s.size + 1 + 3 * f ∧ ns'.length ≤ 6 * j ∧ deep + 1 ≤ most' ∧ deep + 1 ≤ j ∧ kids.length ≤ j ∧ (bd = false → j ≤ s.size) ∧ LM f s i j bd ns ns' deep most most' kids rs)
      case atStart => exact ⟨j, bd, ns1, most1, [idx], rs, rfl, hp1', hO1, hfr1, by omega, k2, k3, k4, by omega, by simp; omega, k5, HLM.out⟩
      case round =>
        obtain ⟨j, bd, ns', most', kids, rs, rfl, hp, hO, hfr, h1, h2, h3, h4, h5, h6, h7, h8⟩ := hrel
        obtain ⟨a0, cap0, rfl⟩ := hO.form
        obtain ⟨nv, hb, hN⟩ := hp
        have hc2 := hb.cell 2 rfl
        have hp : LP wr b (fun k => K k ∧ (Value.slice a0 kids.length cap0).ownBlock ≠ some k) s j bd ns' (deep + 1) most' := ⟨nv, hb, hN⟩
        have H8 := Lib.hid h8
        clear h8 HLM
        cases bd with
        | true =>
          clear hb hN
          go_wp2_with fail
          go_meet
          exact ⟨j, true, ns', most', kids, rs, hp.mono (fun k hk => hk.1), hO, hfr, h1, h2, h3, by omega, h6, h7, H8.out, fun h => by cases h⟩
        | false =>
          by_cases hx : nx s j = 124
          · obtain ⟨x1, x2⟩ := nx_eq (k := 124) rfl hx
            have hjlt : j < s.size := nx_lt2 (by rw [hx]; decide)
            obtain ⟨f', g1, g2, g3⟩ := H8.out.next hx hjlt
            have G3 := Lib.hid g3
            clear g3 hx
            have hw1 := hb.cell 1 rfl
            have hw1f := hb.free 1
            have hp3 : ∀ n, LP ((wr.setCell ⟨b, 1, none⟩ (.int .i64 ((j + 1 : Nat) : Int))).drewN n) b (fun k => K k ∧ (Value.slice a0 kids.length cap0).ownBlock ≠ some k) s (j + 1) false ns' (deep + 1) most' := fun n =>
              ⟨nv, (hb.set 1 _).drewN n, hN.frame (((Fr.refl [b] wr).setCell (by simp) _).drewN n) (fun g hg hm => HKb.out (by simp at hm; subst hm; exact (hN.lt hg).1.1)) (fun k hk hh => HKb.out (by simp at hk; subst hk; exact hh.1.1))⟩
            have hO3 : ∀ n, Own K (fun _ => False) 3 Ty.int ((wr.setCell ⟨b, 1, none⟩ (.int .i64 ((j + 1 : Nat) : Int))).drewN n) (.slice a0 kids.length cap0) kids := fun n =>
              hO.frame (((Fr.refl [b] wr).setCell (by simp) _).drewN n) (fun g hg hm => HKb.out (by simp at hm; subst hm; exact (hO.lt hg).1)) (fun k hk hh => hh.1)
            have hfr3 : ∀ n, FrK b K w ((wr.setCell ⟨b, 1, none⟩ (.int .i64 ((j + 1 : Nat) : Int))).drewN n) := fun n => hfr.fr (((Fr.refl [b] wr).setCell (by simp) _).drewN n) (by simp)
            have HP3 := Lib.hid hp3
            have HO3 := Lib.hid hO3
            have HF3 := Lib.hid hfr3
            clear hp3 hO3 hfr3 hN hp
            go_wp2_with (first
              | (go_at_call 39; refine (peek_any b s j false nv (deep + 1) most' _ hb (by omega) hs).mono ?_; rintro e w2 ⟨rfl, n, rfl⟩)
              | (go_at_call 34; refine (HP.out f' g2 s b _ (j + 1) ns' (deep + 1) most' _ (HP3.out _) (fun k hk => ⟨HKK.out k (by have := (HF3.out n).size; omega), fun hv => by have := ((HO3.out n).lt hv).2; omega⟩) (fun h => HKb.out h.1) (by omega) hs (by omega) (by omega) h4 (by omega) g1).mono ?_; rintro e w4 ⟨ix, j', bd', ns'', most'', rfl, hI4, hp4, hf4, q1, q2, q3, q4, q5, q6⟩)
              | (at_builtin; refine wpList_append_Own (P := Try.prog) (by rfl) (.tmp 50) (.tmp 53) 66 (by rfl) (T := Ty.int) (l := kids) (y := ix) (v := .slice a0 kids.length cap0) (tb := w4.heap.size) (c := 1) (cs := [.int .i64 ix]) Try.inf_int (by rfl) (((HO3.out n).frK hf4 (fun g hg => ⟨fun hb => HKb.out (hb ▸ (hO.lt hg).1), fun hh => hh.2 hg⟩)).frame ((Fr.refl [] w4).alloc _) (by simp) (by simp)) (by rfl) (heap_alloc_new w4 _) ⟨rfl, hI4⟩ ?_ ?o3 ?o4 ?o5; intro p cap w5 hO5 hf5 hat))
            case o3 => exact HKK.out _ (by have := (HF3.out n).size; have := hf4.size; simp; omega)
            case o4 => simp only [maxLen]; omega
            case o5 => omega
            · have hgb : ∀ g, (Value.slice a0 kids.length cap0).ownBlock = some g → K g ∧ g < wr.heap.size := fun g hg => hO.lt hg
              have hp5 : LP w5 b (fun k => K k ∧ (Value.slice p (kids.length + 1) cap).ownBlock ≠ some k) s j' bd' ns'' (deep + 1) most'' := by
                have hq := (hp4.bound.frame ((Fr.refl [] w4).alloc (.cells #[.int .i64 ix] 3)) (by simp) (by simp)).frame hf5 (fun hm => HKb.out (hgb b (by simpa using hm)).1) (fun k hk hh => hh.1.2 (by simpa using hk))
                refine hq.mono (fun k hk => ⟨hk.1.1, fun hv => ?_⟩)
                rcases hat with hat | hat
                · exact hk.1.2 (hat ▸ hv)
                · rw [hat] at hv; simp at hv; have := hk.2; omega
              have hfr5 : FrK b K w w5 := (((HF3.out n).trans (hf4.mono (fun k hk => hk.1))).fr ((Fr.refl [] w4).alloc (.cells #[.int .i64 ix] 3)) (by simp)).fr hf5 (fun k hk => .inr (hgb k (by simpa using hk)).1)
              obtain ⟨rs', e1, e2⟩ := G3.out j' bd' ns'' most'' ix (by omega) q6
              have E2 := Lib.hid e2
              have hst : (if bd' = true then 0 else s.size + 2 - j') < s.size + 2 - j := by split <;> omega
              clear e2 q6 hat hgb
              go_roundg (if bd' = true then 0 else s.size + 2 - j')
              case rel => exact ⟨j', bd', ns'', most'', kids ++ [ix], rs', rfl, hp5, hO5, hfr5, by omega, by omega, q3, q4, by omega, by simp; omega, q5, E2.out⟩
              case measure => simpa using hst
          · obtain ⟨x1, x2⟩ := nx_ne (k := 124) rfl hx
            have HX3 := Lib.hid hx
            clear hx hN
            go_wp2_with (go_at_call 39; refine (peek_any b s j false nv (deep + 1) most' _ hb (by omega) hs).mono ?_; rintro e w2 ⟨rfl, n, rfl⟩)
            go_meet
            exact ⟨j, false, ns', most', kids, rs, (hp.mono (fun k hk => hk.1)).frame ((Fr.refl [] _).drewN n) (by simp) (by simp), hO.frame ((Fr.refl [] _).drewN n) (by simp) (by simp), hfr.fr ((Fr.refl [] _).drewN n) (by simp), h1, h2, h3, by omega, h6, (fun _ => h7 (by trivial)), H8.out, fun _ => HX3.out⟩
    case rest =>
      obtain ⟨j, bd, ns', most', kids, rs, hp, hO, hfr, h1, h2, h3, h4, h6, h7, h8, h9⟩ := hcut
      obtain ⟨a0, cap0, rfl⟩ := hO.form
      obtain ⟨wb, rfl⟩ : ∃ wb : World, wb = wc := ⟨_, rfl⟩
      obtain ⟨nv, hb, hN⟩ := hp
      have H8 := Lib.hid h8
      have H9 := Lib.hid h9
      clear h8 h9 HLM
      have hbd : deep + 1 ≤ 100000 := by omega
      have hend : ∀ (W : World) (bad' : Bool), LB W b s (j + 1) bad' nv deep most' → Fr [b] wb W → bad' = ((bd || !bNx s j 41) || decide (kids.length < 2)) →
          Calls Try.prog 41 #[.pointer (some ⟨b, 0, none⟩), .agg #[.string (bs []), .bool false, .slice a0 kids.length cap0]] W fun e w' => ∃ v, e = .returned v ∧ LPPost (f + 1) s b K i ns deep most w (.returned v) w' := by
        intro W bad' hB hF hbad
        have hOW := hO.frame hF (fun g hg hm => HKb.out (by simp at hm; subst hm; exact (hO.lt hg).1)) (fun k hk hh => hh.1)
        have hNW := hN.frame hF (fun g hg hm => HKb.out (by simp at hm; subst hm; exact (hN.lt hg).1)) (fun k hk hh => HKb.out (by simp at hk; subst hk; exact hh.1))
        have hsl := (hOW.sl.mono (fun k hk => hk.elim id False.elim) : SL K 3 Ty.int _ _ kids)
        refine (node_any b K s (j + 1) bad' ns' deep most' ⟨bs [], false, kids⟩ (.slice a0 kids.length cap0) W ⟨nv, hB, hNW⟩ (fun k hk => HKK.out k (by have := hfr.size; have := hF.size; omega)) HKb.out ⟨_, rfl, Nat.zero_le _, hsl⟩ (by omega)).mono ?_
        rintro e w2 ⟨rfl, hp2, L, hf2, hL⟩
        refine ⟨_, rfl, (ns'.length : Int), j + 1, bad', _, most', rfl, by unfold I64; omega, hp2, (hfr.fr hF (by simp)).trans ⟨L, hf2, hL⟩, by omega, by omega, by simp; omega, h4, ?_, H8.out.fin H9.out hbad⟩
        intro hb0
        rw [hb0] at hbad
        have hbd0 : bd = false := by cases bd with
          | false => rfl
          | true => simp at hbad
        have : bNx s j 41 = true := by
          rw [hbd0] at hbad
          cases hq : bNx s j 41 with
          | true => rfl
          | false => rw [hq] at hbad; simp at hbad
        have hjl : j < s.size := nx_lt2 (by rw [show nx s j = 41 by simpa [bNx] using this]; decide)
        omega
      have HE := Lib.hid hend
      clear hend hN
      by_cases hl : kids.length < 2
      · have hl' : decide ((kids.length : Int) < 2) = true := by simp; omega
        have HL := Lib.hid hl
        clear hl
        go_wp2_with (first
          | (go_at_call 33; refine (ltake_any b s j bd nv (deep + 1) most' 41 _ rfl _ hb (by omega) hs).mono ?_; rintro e w2 ⟨rfl, hb2, hf2⟩; have hc4 := hb2.cell 4 rfl; have hg4 := hb2.free 4; have hc2 := hb2.cell 2 rfl; have hg2 := hb2.free 2)
          | (go_at_call 41; refine (HE.out _ true ((hb2.set 4 _).set 2 _) (((hf2).setCell (by simp) _).setCell (by simp) _) (by simp [HL.out])).mono ?_; rintro e w3 ⟨v, rfl, hpost⟩))
        go_ret
        exact hpost
      · have hl' : decide ((kids.length : Int) < 2) = false := by simp; omega
        have HL := Lib.hid hl
        clear hl
        go_wp2_with (first
          | (go_at_call 33; refine (ltake_any b s j bd nv (deep + 1) most' 41 _ rfl _ hb (by omega) hs).mono ?_; rintro e w2 ⟨rfl, hb2, hf2⟩; have hc4 := hb2.cell 4 rfl; have hg4 := hb2.free 4; have hc2 := hb2.cell 2 rfl; have hg2 := hb2.free 2)
          | (go_at_call 41; refine (HE.out _ _ (hb2.set 4 _) ((hf2).setCell (by simp) _) (by simp [HL.out])).mono ?_; rintro e w3 ⟨v, rfl, hpost⟩))
        go_ret
        exact hpost
end Go.Proofs.Ytkfpoagjlaldgaa

