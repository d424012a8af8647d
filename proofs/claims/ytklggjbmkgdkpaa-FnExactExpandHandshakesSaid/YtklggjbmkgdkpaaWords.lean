/- ProcessEdges on both sides: the words of the leaves. -/
import Derived.Test.YtklggjbmkgdkpaaStr
import Derived.Test.YtklggjbmkgdkpaaExp
set_option linter.unusedVariables false
namespace Go.Proofs.Ytklggjbmkgdkpaa
open Go.RowKit

def goodP (p : ByteArray × UInt8) : Prop := (p.2 = 43 ∨ p.2 = 45) ∧ p.1.size ≤ 7
theorem partsRow_four (a b c d : Tr) : partsRow [a, b, c, d] = partsT a ++ (partsT b ++ (partsT c ++ (partsT d ++ []))) := rfl
mutual
theorem partsT_good (t : Tr) (h : okT t) : (partsRow (expandT t)).length ≤ 4 * cntT t ∧ ∀ p, p ∈ partsRow (expandT t) → goodP p := by
  cases t with
  | edge n m =>
    have hs := leafOk_size h
    rcases leafOk_marks h with ⟨h1, h2⟩ | ⟨h1, h2⟩
    · have e : partsRow (expandT (.edge n m)) = [(n, m)] := by simp [expandT, h2, partsRow, partsT]
      rw [e]
      refine ⟨by simp [cntT], fun p hp => ?_⟩
      simp at hp
      subst hp
      refine ⟨by simpa using h1, by simp only; omega⟩
    · have e : partsRow (expandT (.edge n m)) = [(n ++ bs [114], 43), (n ++ bs [97], 43), (n ++ bs [114], 45), (n ++ bs [97], 45)] := by simp [expandT, h2, partsRow, partsT]
      rw [e]
      refine ⟨by simp [cntT], fun p hp => ?_⟩
      have h3 : ∀ x : UInt8, (n ++ bs [x]).size ≤ 7 := fun x => by rw [ByteArray.size_append, show (bs [x]).size = 1 from rfl]; omega
      simp at hp
      rcases hp with rfl | rfl | rfl | rfl
      · exact ⟨.inl rfl, h3 _⟩
      · exact ⟨.inl rfl, h3 _⟩
      · exact ⟨.inr rfl, h3 _⟩
      · exact ⟨.inr rfl, h3 _⟩
  | par rows =>
    have := partsRows_good rows h.2
    simpa only [expandT, partsRow, partsT, List.append_nil, cntT] using this
theorem partsRow_good (r : List Tr) (h : okRow r) : (partsRow (expandRow r)).length ≤ 4 * cntRow r ∧ ∀ p, p ∈ partsRow (expandRow r) → goodP p := by
  cases r with
  | nil => simp [expandRow, partsRow]
  | cons t ts =>
    have h1 := partsT_good t h.1
    have h2 := partsRow_good ts h.2
    simp only [expandRow, partsRow_append, cntRow, List.length_append, List.mem_append]
    refine ⟨by omega, fun p hp => hp.elim (h1.2 p) (h2.2 p)⟩
theorem partsRows_good (rs : List (List Tr)) (h : okRows rs) : (partsRows (expandRows rs)).length ≤ 4 * cntRows rs ∧ ∀ p, p ∈ partsRows (expandRows rs) → goodP p := by
  cases rs with
  | nil => simp [expandRows, partsRows]
  | cons r rs =>
    have h1 := partsRow_good r h.1.2
    have h2 := partsRows_good rs h.2
    simp only [expandRows, partsRows, cntRows, List.length_append, List.mem_append]
    refine ⟨by omega, fun p hp => hp.elim (h1.2 p) (h2.2 p)⟩
end
theorem procOf_ok {s : ByteArray} {ts : List Tr} (h : procOf s = some ts) : ts ≠ [] ∧ okRow ts ∧ cntRow ts ≤ 200 := by
  have h0 := h
  obtain ⟨hs, j, hj⟩ := procOf_parse h
  obtain ⟨h1, h2, h3, h4⟩ := (parse_ok _ _ _).2.1 _ _ hj
  unfold procOf at h0
  split at h0
  · rw [hj] at h0
    simp only at h0
    split at h0
    · rename_i _ h5
      exact ⟨h1, h2, by have := h5.2; omega⟩
    · cases h0
  · cases h0
/-- The words of a process: none if there is no process. -/
def edgesOf (s : ByteArray) : List ByteArray := match procOf s with
  | none => []
  | some ts => (partsRow (expandRow ts)).map word
theorem edgesOf_len (s : ByteArray) : (edgesOf s).length ≤ 800 := by
  unfold edgesOf
  split
  · simp
  · rename_i ts h
    obtain ⟨_, h1, h2⟩ := procOf_ok h
    have := (partsRow_good ts h1).1
    simp only [List.length_map]; omega

abbrev OwnS (B : Nat) (w : World) (v : Value) (l : List ByteArray) : Prop := Own (fun k => B ≤ k) (fun _ => False) 9 Ty.str w v l
def WordsPost (l : List ByteArray) (w : World) (e : Ending) (w' : World) : Prop := ∃ v, e = .returned v ∧ OwnS w.heap.size w' v l ∧ Fr [] w w'
theorem leafWords_take {ns : List Nd} {k : Nat} {x : Nd} (h : ns[k]? = some x) : leafWords (ns.take (k + 1)) = leafWords (ns.take k) ++ leafWords [x] := by
  rw [List.take_add_one, h]; simp [leafWords_append]
theorem leafWords_len (ns : List Nd) : (leafWords ns).length ≤ ns.length := by
  unfold leafWords; rw [List.length_map]; exact List.length_filter_le _ _

set_option maxHeartbeats 1000000 in
theorem lpWords_any (s : ByteArray) (b : Nat) (K : Nat → Prop) (i : Nat) (bad : Bool) (ns : List Nd) (deep most : Nat) (w : World) (hp : LP w b K s i bad ns deep most) (hn : ns.length ≤ 100000) :
    Calls Try.prog 32 #[.pointer (some ⟨b, 0, none⟩)] w (WordsPost (leafWords ns) w) := by
  obtain ⟨nv, hb, hN⟩ := hp
  obtain ⟨a, cap, rfl⟩ := hN.form
  have hc3 := hb.cell 3 rfl
  have HSL := Lib.hid hN.sl
  clear hN hb
  go_enter Try.func32, Try.ntmps32
  go_wp2
  go_loopg [3, 11] ns.length (fun mm v3 v11 wr => ∃ k, mm = ns.length - k ∧ k ≤ ns.length ∧ v11 = .int .i64 k ∧ OwnS w.heap.size wr v3 (leafWords (ns.take k)) ∧ Fr [] w wr)
  case atStart => exact ⟨0, rfl, Nat.zero_le _, rfl, Own.nil _ _ _ _ _, Fr.refl _ _⟩
  case round =>
    obtain ⟨k, rfl, hk, rfl, hO, hfr⟩ := hrel
    obtain ⟨wo, rfl⟩ : ∃ wo : World, wo = wr := ⟨_, rfl⟩
    by_cases hlt : k < ns.length
    · obtain ⟨x, hx⟩ : ∃ x, ns[k]? = some x := ⟨_, List.getElem?_eq_getElem hlt⟩
      obtain ⟨g, off, cs, rfl, _, _, ⟨vk, rfl, hws, hks⟩, hcells⟩ := (HSL.out.frame hfr (by simp)).get hx
      obtain ⟨a1, c1, rfl, hlc1, hcm1, _⟩ := hks.form
      have HTK := Lib.hid (leafWords_take hx)
      have HLW := Lib.hid (show leafWords [x] = if x.kids.length = 0 then [x.word] else [] by
        by_cases h0 : x.kids = []
        · simp [leafWords, h0]
        · rw [if_neg (fun h => h0 (List.eq_nil_of_length_eq_zero h))]
          simp [leafWords, h0])
      have hll := leafWords_len (ns.take k)
      rw [List.length_take] at hll
      have hl2 : (leafWords (ns.take k)).length + 1 ≤ 100001 := by omega
      clear hx hll hks
      obtain ⟨a0, cap0, rfl⟩ := hO.form
      generalize hL : leafWords (ns.take k) = L at hO hl2
      have HL := Lib.hid hL
      clear hL
      obtain ⟨wd, rw_, kk⟩ := x
      simp only at *
      generalize hkl : kk.length = kl at *
      have c0 : wo.cell? ⟨g, off + k * 3, none⟩ = some (.string wd) := hcells 0 _ rfl
      have c1' : wo.cell? ⟨g, off + k * 3 + 1, none⟩ = some (.bool rw_) := hcells 1 _ rfl
      have c2 : wo.cell? ⟨g, off + k * 3 + 2, none⟩ = some (.slice a1 kl c1) := hcells 2 _ rfl
      have hP : Blk (wo.alloc (.cells #[.string wd, .bool rw_, .slice a1 kl c1] 91)) wo.heap.size 91 [.string wd, .bool rw_, .slice a1 kl c1] := Blk.new wo _ _
      clear hcells
      go_upto_block 1 with fail
      go_cut [3] (fun v wx => OwnS w.heap.size wx v (leafWords (ns.take (k + 1))) ∧ Fr [] w wx)
      case first =>
        by_cases h0 : kl = 0
        · subst h0
          have hfin : leafWords (ns.take (k + 1)) = L ++ [wd] := by rw [HTK.out, HLW.out, HL.out]; simp
          have HF := Lib.hid hfin
          clear hfin HTK HLW
          go_wp2_with (at_builtin; refine wpList_append_Own (P := Try.prog) (by rfl) (.tmp 19) (.tmp 22) 25 (by rfl) (T := Ty.str) (l := L) (y := wd) (v := .slice a0 L.length cap0) (tb := wo.heap.size + 1) (c := 1) (cs := [.string wd]) Try.inf_string (by rfl) (hO.flat (((Fr.refl [] wo).alloc _).alloc _)) (by rfl) (by exact alloc2_new wo _ _) ⟨rfl, hws⟩ ?_ ?o3 ?o4 ?o5; intro p cap w5 hO5 hf5 hat)
          case o3 => have := hfr.size; simp; omega
          case o4 => simp only [maxLen]; omega
          case o5 => omega
          · go_meet
            refine ⟨by rw [HF.out]; exact hO5, ?_⟩
            exact (hO.flat (((Fr.refl [] wo).alloc _).alloc _)).flatFr ((hfr.alloc _).alloc _) hf5
        · have ht : ((kl : Int) == 0) = false := by simp; omega
          have hfin : leafWords (ns.take (k + 1)) = L := by rw [HTK.out, HLW.out, HL.out, if_neg h0, List.append_nil]
          have HF := Lib.hid hfin
          clear hfin HTK HLW h0
          go_wp2_with fail
          go_meet
          exact ⟨by rw [HF.out]; exact hO.flat ((Fr.refl [] wo).alloc _), hfr.alloc _⟩
      case rest =>
        obtain ⟨hO5, hfr5⟩ := hcut
        go_wp2
        go_roundg (ns.length - (k + 1))
        case rel => exact ⟨k + 1, rfl, by omega, by go_num, hO5, hfr5⟩
        case measure => omega
    · obtain rfl : k = ns.length := by omega
      go_wp2
      go_ret
      exact ⟨_, rfl, by simpa using hO, hfr⟩
end Go.Proofs.Ytklggjbmkgdkpaa
