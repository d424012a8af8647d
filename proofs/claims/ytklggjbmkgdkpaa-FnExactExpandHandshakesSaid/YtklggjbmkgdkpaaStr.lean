/- The walks of the law's helpers on lists of strings: equality, marking, and the look at the marks. -/
import Derived.Test.YtklggjbmkgdkpaaEdges
import Derived.Test.YtklggjbmkgdkpaaLp5
set_option linter.unusedVariables false
namespace Go.Proofs.Ytklggjbmkgdkpaa
open Go.RowKit

theorem Try.inf_string : AppInfo Try.prog 25 9 1 16 := appInfo Try.underlying25 (z := .string ByteArray.empty) (by kernel_rfl) rfl (by omega)

theorem eqStringS_same (l : List ByteArray) (v1 v2 : Value) (w : World) (h1 : SL (fun _ => True) 9 Ty.str w v1 l) (h2 : SL (fun _ => True) 9 Ty.str w v2 l) :
    Calls Try.prog 15 #[v1, v2] w fun e w' => e = .returned (.bool true) ∧ ∃ n, w' = w.drewN n := by
  obtain ⟨a1, c1, rfl, hc1, hm1, h1⟩ := h1.form
  obtain ⟨a2, c2, rfl, hc2, hm2, h2⟩ := h2.form
  have hl : l.length ≤ 9223372036854775807 := by simp only [maxLen] at hm1; omega
  have H1 := Lib.hid h1
  have H2 := Lib.hid h2
  clear h1 h2 hc1 hm1 hc2 hm2
  go_enter Try.func15, Try.ntmps15
  go_wp2
  go_loopg [5] l.length (fun mm v5 wr => ∃ k n : Nat, mm = l.length - k ∧ k ≤ l.length ∧ v5 = .int .i64 k ∧ wr = w.drewN n)
  case atStart => exact ⟨0, 0, rfl, Nat.zero_le _, rfl, rfl⟩
  case round =>
    obtain ⟨k, n, rfl, hk, rfl, rfl⟩ := hrel
    by_cases hlt : k < l.length
    · obtain ⟨x, hx⟩ : ∃ x, l[k]? = some x := ⟨_, List.getElem?_eq_getElem hlt⟩
      obtain ⟨g1, o1, rfl, hx1, _⟩ := H1.out.str_at hx
      obtain ⟨g2, o2, rfl, hx2, _⟩ := H2.out.str_at hx
      have b0 : (0 : Int) ≤ (k : Int) := by omega
      have b1 : (k : Int) < (l.length : Int) := by omega
      clear hx
      go_wp2
      go_quiet (fail)
      go_wp2
      go_roundg (l.length - (k + 1))
      case rel => exact ⟨k + 1, _, rfl, by omega, by go_num, rfl⟩
      case measure => omega
    · go_wp2
      go_ret
      exact ⟨rfl, n, rfl⟩

/-- The text of a mark. -/
def digs : Nat → Nat → ByteArray → ByteArray
  | 0, _, out => out
  | f + 1, k, out => if k = 0 then out else digs f (k / 10) (bs [UInt8.ofNat (48 + k % 10)] ++ out)
def mkText (k : Nat) : ByteArray := if k = 0 then bs [109, 48] else bs [109] ++ digs 40 k (bs [])
theorem digs_size : ∀ f k out, (digs f k out).size ≤ out.size + f := by
  intro f
  induction f with
  | zero => intro k out; simp [digs]
  | succ f ih =>
    intro k out
    simp only [digs]
    split
    · omega
    · have := ih (k / 10) (bs [UInt8.ofNat (48 + k % 10)] ++ out)
      rw [ByteArray.size_append, show (bs [UInt8.ofNat (48 + k % 10)]).size = 1 from rfl] at this
      omega
theorem mkText_size (k : Nat) : (mkText k).size ≤ 50 := by
  unfold mkText
  split
  · decide
  · rw [ByteArray.size_append, show (bs [109]).size = 1 from rfl]
    have := digs_size 40 k (bs [])
    rw [show (bs []).size = 0 from rfl] at this
    omega

set_option maxHeartbeats 1000000 in
theorem markText_any (k : Nat) (w : World) (hk : k ≤ 1000000000000) : Calls Try.prog 35 #[.int .i64 k] w (RetF (.string (mkText k)) w) := by
  by_cases h0 : k = 0
  · subst h0
    go_enter Try.func35, Try.ntmps35
    go_wp2
    go_ret
    exact ⟨rfl, Fr.refl _ _⟩
  · have E := Lib.hid (show mkText k = bs [109] ++ digs 40 k (bs []) by simp [mkText, h0])
    have hcv := Try.conv1
    go_enter Try.func35, Try.ntmps35
    go_wp2
    go_loopg [0, 3] 40 (fun mm v0 v3 wr => ∃ (j : Nat) (out : ByteArray), v0 = .int .i64 j ∧ v3 = .string out ∧ out.size ≤ 40 - mm ∧ mm ≤ 40 ∧ j ≤ k ∧ j < 10 ^ mm ∧ digs mm j out = digs 40 k (bs []) ∧ Fr [] w wr)
    case atStart => exact ⟨k, bs [], rfl, rfl, by decide, Nat.le_refl _, Nat.le_refl _, by omega, rfl, Fr.refl _ _⟩
    case round =>
      obtain ⟨j, out, rfl, rfl, ho, hm, hjk, hj, hd, hfr⟩ := hrel
      have HD := Lib.hid hd
      have HJ := Lib.hid hj
      clear hd hj
      by_cases hj0 : j = 0
      · subst hj0
        have E2 := Lib.hid (show digs gk 0 out = out by cases gk <;> simp [digs])
        go_wp2
        go_ret
        exact ⟨by rw [E.out, ← HD.out, E2.out]; rfl, hfr⟩
      · have hjp : 0 < j := by omega
        obtain ⟨f, rfl⟩ : ∃ f, gk = f + 1 := ⟨gk - 1, by
          have := HJ.out
          rcases Nat.eq_zero_or_pos gk with h | h
          · rw [h] at this; simp at this; omega
          · omega⟩
        have hdg : digs (f + 1) j out = digs f (j / 10) (bs [UInt8.ofNat (48 + j % 10)] ++ out) := by simp only [digs]; rw [if_neg hj0]
        have hb' : ((UInt8.ofNat (48 + j % 10)).toNat : Int) = 48 + (j : Int) % 10 := by
          rw [UInt8.toNat_ofNat_of_lt' (by show 48 + j % 10 < 256; omega)]; omega
        generalize UInt8.ofNat (48 + j % 10) = m at hdg hb'
        have hb := hb'.symm
        clear hb'
        have HDG := Lib.hid hdg
        clear hdg
        have hbm : (bs [m]).size = 1 := rfl
        have b0 : (0 : Int) ≤ (j : Int) := by omega
        have b1 : (j : Int) ≤ 1000000000000 := by omega
        have b2 : (0 : Int) ≤ (j : Int) % 10 := by omega
        have b3 : (j : Int) % 10 < 10 := by omega
        clear hj0
        go_wp2
        go_roundg f
        case rel =>
          refine ⟨j / 10, bs [m] ++ out, by go_num, rfl, ?_, by omega, by omega, ?_, ?_, ?_⟩
          · rw [ByteArray.size_append]; omega
          · have := HJ.out; rw [Nat.pow_succ] at this; omega
          · rw [← HDG.out]; exact HD.out
          · exact hfr.alloc _
        case measure => omega

/-- Owned lists of strings, plainly. -/
theorem Own.str_plain {B : Nat} {e : TypeId} {w : World} {v : Value} {l : List ByteArray} (h : Own (fun k => B ≤ k) (fun _ => False) e Ty.str w v l) :
    w.ownsRow 0 e 1 v l.length (l.map Value.string) ∧ (∀ g, v.ownBlock = some g → B ≤ g) ∧ ∀ x, x ∈ l → x.size ≤ maxLen := by
  obtain ⟨xs, ho, hg, hel⟩ := h
  have hx : xs = l.map Value.string := by
    apply List.ext_getElem?
    intro i
    have hl : xs.length = l.length := by have := ho.1; simpa [Ty.str] using this
    by_cases hi : i < l.length
    · have hr := (hel i _ (List.getElem?_eq_getElem hi)).1
      simp only [Ty.str, Nat.mul_one] at hr
      have h2 := congrArg (fun z => z[0]?) hr
      simp only [List.getElem?_take, List.getElem?_drop, Nat.add_zero] at h2
      rw [List.getElem?_map, List.getElem?_eq_getElem hi]
      simpa using h2
    · rw [List.getElem?_eq_none (by omega), List.getElem?_eq_none (by simp; omega)]
  subst hx
  refine ⟨ho, hg, fun x hx => ?_⟩
  obtain ⟨i, hi⟩ := List.getElem?_of_mem hx
  exact (hel i x hi).2
theorem Own.of_str {B : Nat} {e : TypeId} {w : World} {v : Value} {l : List ByteArray} (ho : w.ownsRow 0 e 1 v l.length (l.map Value.string)) (hg : ∀ g, v.ownBlock = some g → B ≤ g) (hm : ∀ x, x ∈ l → x.size ≤ maxLen) :
    Own (fun k => B ≤ k) (fun _ => False) e Ty.str w v l := by
  refine ⟨_, ho, hg, fun i x hx => ⟨?_, hm x (List.mem_of_getElem? hx)⟩⟩
  have h1 : (l.map Value.string)[i]? = some (.string x) := by rw [List.getElem?_map, hx]; rfl
  simp only [Ty.str, Nat.mul_one]
  have hi := (List.getElem?_eq_some_iff.1 h1).1
  rw [List.drop_eq_getElem_cons hi, List.take_succ_cons, List.take_zero]
  rw [List.getElem?_eq_getElem hi] at h1
  simp only [Option.some.injEq] at h1
  rw [h1]
/-- A cell of an owned list of strings: it reads, it may be written. -/
theorem Own.upd {B : Nat} {e : TypeId} {w : World} {a : Option Addr} {n cap : Nat} {A t : List ByteArray} {x : ByteArray} (h : Own (fun k => B ≤ k) (fun _ => False) e Ty.str w (.slice a n cap) (A ++ x :: t)) :
    ∃ g, a = some ⟨g, 0, none⟩ ∧ B ≤ g ∧ g < w.heap.size ∧ ∀ W, Fr [] w W → W.cell? ⟨g, A.length, none⟩ = some (.string x) ∧ W.frozen? ⟨g, A.length, none⟩ = false ∧
      ∀ y, y.size ≤ maxLen → Own (fun k => B ≤ k) (fun _ => False) e Ty.str (W.setCell ⟨g, A.length, none⟩ (.string y)) (.slice a n cap) (A ++ y :: t) := by
  obtain ⟨ho, hg, hm⟩ := h.str_plain
  rcases ho.2 with ⟨hv, h0⟩ | ⟨g, cap', cur, hv, hb, hgg, hle, hmx, hsz, htake⟩
  · simp at h0
  · simp only [Value.slice.injEq] at hv
    obtain ⟨rfl, hn, rfl⟩ := hv
    have hlt := lt_of_block hgg
    refine ⟨g, rfl, hg g rfl, hlt, fun W hW => ?_⟩
    have hB : Blk W g e cur.toList := by
      show W.heap[g]? = _
      rw [hW.block g hlt (by simp), hgg]
    have hcx : cur.toList[A.length]? = some (.string x) := by
      have h1 := congrArg (fun z => z[A.length]?) htake
      simp only [Nat.mul_one, List.getElem?_take, List.getElem?_map] at h1
      rw [if_pos (by simp)] at h1
      rw [h1]; simp
    refine ⟨hB.cell _ hcx, hB.free _, fun y hy => Own.of_str ⟨by simp, .inr ⟨g, cap, (cur.toList.set A.length (.string y)).toArray, by rw [hn]; simp, hb, hB.set _ _, by simpa using hle, hmx, by simpa using hsz, ?_⟩⟩ hg ?_⟩
    · have h2 := congrArg (fun z => z.set A.length (.string y)) htake
      simp only [Nat.mul_one] at h2 ⊢
      rw [List.take_set, show (A ++ y :: t).length = (A ++ x :: t).length by simp, h2]
      simp
    · intro z hz
      simp only [List.mem_append, List.mem_cons] at hz
      rcases hz with h | rfl | h
      · exact hm z (by simp [h])
      · exact hy
      · exact hm z (by simp [h])

theorem Fr.cell_some {w w' : World} (h : Fr [] w w') {p : Addr} {v : Value} (hc : w.cell? p = some v) : w'.cell? p = some v := by
  have hlt : p.block < w.heap.size := by
    unfold World.cell? at hc
    cases hb : w.heap[p.block]? with
    | none => rw [hb] at hc; simp at hc
    | some o => exact lt_of_block hb
  rw [h.cell hlt (by simp), hc]
def marks (k n : Nat) : List ByteArray := (List.range n).map (fun i => mkText (k + i))
theorem marks_succ (k n : Nat) : marks k (n + 1) = marks k n ++ [mkText (k + n)] := by simp [marks, List.range_succ]
theorem marks_len (k n : Nat) : (marks k n).length = n := by simp [marks]

set_option maxHeartbeats 1000000 in
theorem markStringS_any (B : Nat) (l : List ByteArray) (k0 : Nat) (v : Value) (w : World) (hl : l.length ≤ 1000000) (hk : k0 ≤ 1000000) (h : Own (fun k => B ≤ k) (fun _ => False) 9 Ty.str w v l) :
    Calls Try.prog 16 #[v, .int .i64 k0] w fun e w' => e = .returned (.int .i64 ((k0 + l.length : Nat) : Int)) ∧ Own (fun k => B ≤ k) (fun _ => False) 9 Ty.str w' v (marks k0 l.length) ∧ Fr v.ownBlock.toList w w' := by
  obtain ⟨a, cap, rfl⟩ := h.form
  have H := Lib.hid h
  clear h
  go_enter Try.func16, Try.ntmps16
  go_wp2
  go_loopg [1, 5] l.length (fun mm v1 v5 wr => ∃ k : Nat, mm = l.length - k ∧ k ≤ l.length ∧ v1 = .int .i64 ((k0 + k : Nat) : Int) ∧ v5 = .int .i64 k ∧ Own (fun k => B ≤ k) (fun _ => False) 9 Ty.str wr (.slice a l.length cap) (marks k0 k ++ l.drop k) ∧ Fr (Value.slice a l.length cap).ownBlock.toList w wr)
  case atStart => exact ⟨0, rfl, Nat.zero_le _, by simp, rfl, by simpa [marks] using H.out, Fr.refl _ _⟩
  case round =>
    obtain ⟨k, rfl, hk, rfl, rfl, hO, hfr⟩ := hrel
    by_cases hlt : k < l.length
    · rw [List.drop_eq_getElem_cons hlt] at hO
      obtain ⟨g, rfl, hBg, hgl, hu⟩ := hO.upd
      rw [marks_len] at hu
      have HU := Lib.hid hu
      clear hu hO
      go_wp2_with (go_at_call 35; refine (markText_any (k0 + k) _ (by omega)).mono ?_; rintro e w2 ⟨rfl, hf2⟩; obtain ⟨hc2, hg2, hn2⟩ := HU.out _ hf2; have HN2 := Lib.hid (hn2 (mkText (k0 + k)) (by have := mkText_size (k0 + k); simp only [maxLen]; omega)); clear hn2)
      go_roundg (l.length - (k + 1))
      case rel => exact ⟨k + 1, rfl, by omega, by go_num, by go_num, by rw [marks_succ, List.append_assoc]; exact HN2.out, ((hfr.trans (hf2.mono (by simp))).setCell (by simp [Value.ownBlock]) _)⟩
      case measure => omega
    · obtain rfl : k = l.length := by omega
      go_wp2
      go_ret
      exact ⟨rfl, by simpa using hO, hfr⟩

set_option maxHeartbeats 1000000 in
theorem heldStringS_any (l : List ByteArray) (k0 : Nat) (v : Value) (w : World) (hl : l.length ≤ 1000000) (hk : k0 ≤ 1000000) (hm : l = marks k0 l.length) (h : SL (fun _ => True) 9 Ty.str w v l) :
    Calls Try.prog 17 #[v, .int .i64 k0] w fun e w' => e = .returned (.int .i64 ((k0 + l.length : Nat) : Int)) ∧ Fr [] w w' := by
  obtain ⟨a, cap, rfl, hlc, hcm, h⟩ := h.form
  have hl9 : l.length ≤ 9223372036854775807 := by omega
  have H := Lib.hid h
  have HM := Lib.hid hm
  clear h hm hlc hcm
  go_enter Try.func17, Try.ntmps17
  go_wp2
  go_loopg [1, 5] l.length (fun mm v1 v5 wr => ∃ k : Nat, mm = l.length - k ∧ k ≤ l.length ∧ v1 = .int .i64 ((k0 + k : Nat) : Int) ∧ v5 = .int .i64 k ∧ Fr [] w wr)
  case atStart => exact ⟨0, rfl, Nat.zero_le _, by simp, rfl, Fr.refl _ _⟩
  case round =>
    obtain ⟨k, rfl, hk, rfl, rfl, hfr⟩ := hrel
    by_cases hlt : k < l.length
    · have hx : l[k]? = some (mkText (k0 + k)) := by
        rw [HM.out]; simp [marks, hlt]
      obtain ⟨g, o, rfl, hc, _⟩ := (H.out.frame hfr (by simp)).str_at hx
      clear hx
      go_wp2
      go_region_held3 (fun w' => w'.cell? ⟨g, o + k, none⟩ = some (.string (mkText (k0 + k))) ∧ Fr [] w w') (first | exact ⟨by assumption, by assumption⟩ | exact ⟨hc, hfr.drew⟩ | exact ⟨by assumption, Fr.drew (by assumption)⟩ | exact ⟨hf2.cell_some (by assumption), Fr.trans (by first | assumption | exact hfr.drew) hf2⟩)
        ((go_at_call 35; refine (markText_any (k0 + k) _ (by omega)).mono ?_; rintro e w2 ⟨rfl, hf2⟩))
      all_goals (go_wp2; go_roundg (l.length - (k + 1)))
      case rel => exact ⟨k + 1, rfl, by omega, by go_num, by go_num, hfr.drew.trans hf2⟩
      case measure => omega
    · obtain rfl : k = l.length := by omega
      go_wp2
      go_ret
      exact ⟨rfl, hfr⟩
end Go.Proofs.Ytklggjbmkgdkpaa
