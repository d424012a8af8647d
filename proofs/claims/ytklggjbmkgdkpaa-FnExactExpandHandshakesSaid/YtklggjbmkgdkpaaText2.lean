/- The walk of the reference's text. -/
import Derived.Test.YtklggjbmkgdkpaaText
import Derived.Test.YtklggjbmkgdkpaaLawA
set_option linter.unusedVariables false
namespace Go.Proofs.Ytklggjbmkgdkpaa
open Go.RowKit

theorem take_succ_of {α : Type} {l : List α} {k : Nat} {x : α} (h : l[k]? = some x) : l.take (k + 1) = l.take k ++ [x] := by rw [List.take_add_one, h]; rfl

set_option maxHeartbeats 2000000 in
theorem lpText_any : ∀ (f : Nat) (s : ByteArray) (b : Nat) (K : Nat → Prop) (i : Nat) (bad : Bool) (ns : List Nd) (deep most : Nat) (w : World) (idx : Int), LP w b K s i bad ns deep most → ns.length ≤ 100000 → Nt ns f idx → (ntext ns f idx).size ≤ 100000 →
    Calls Try.prog 36 #[.pointer (some ⟨b, 0, none⟩), .int .i64 idx] w (RetF (.string (ntext ns f idx)) w) := by
  intro f
  induction f with
  | zero => intro s b K i bad ns deep most w idx _ _ h; exact h.elim
  | succ f ih =>
    intro s b K i bad ns deep most w idx hp hn hnt hsz
    obtain ⟨n, x, rfl, hx, hkn⟩ := hnt
    rw [ntext_at hx] at hsz ⊢
    have HP := Lib.hid hp
    obtain ⟨nv, hb, hN⟩ := hp
    obtain ⟨a, cap, rfl⟩ := hN.form
    have hc3 := hb.cell 3 rfl
    obtain ⟨g, off, cs, rfl, _, _, ⟨vk, rfl, hws, hks⟩, hcells⟩ := hN.sl.get hx
    obtain ⟨a1, c1, rfl, hlc1, hcm1, hks⟩ := hks.form
    have hnl : n < ns.length := (List.getElem?_eq_some_iff.1 hx).1
    obtain ⟨wd, rw_, kk⟩ := x
    simp only at *
    have c0 : w.cell? ⟨g, off + n * 3, none⟩ = some (.string wd) := hcells 0 _ rfl
    have c1' : w.cell? ⟨g, off + n * 3 + 1, none⟩ = some (.bool rw_) := hcells 1 _ rfl
    have c2 : w.cell? ⟨g, off + n * 3 + 2, none⟩ = some (.slice a1 kk.length c1) := hcells 2 _ rfl
    have hP : Blk (w.alloc (.cells #[.string wd, .bool rw_, .slice a1 kk.length c1] 91)) w.heap.size 91 [.string wd, .bool rw_, .slice a1 kk.length c1] := Blk.new w _ _
    have hkl9 : kk.length ≤ 9223372036854775807 := by simp only [maxLen] at hcm1; omega
    have KS := Lib.hid hks
    have IH := Lib.hid ih
    have HKN := Lib.hid hkn
    clear hcells hks hN hb ih hkn hx hlc1 hcm1
    generalize hkl : kk.length = kl at *
    have HKL := Lib.hid hkl
    clear hkl
    by_cases h0 : kl = 0
    · rw [if_pos h0]
      subst h0
      go_enter Try.func36, Try.ntmps36
      go_wp2
      go_ret
      exact ⟨rfl, (Fr.refl _ _).alloc _⟩
    · rw [if_neg h0] at hsz ⊢
      have hkl0 : ((kl : Int) == 0) = false := by simp; omega
      obtain ⟨c, hc⟩ : ∃ c : UInt8, (rw_ = true ∧ c = 59) ∨ (rw_ = false ∧ c = 124) := by cases rw_ <;> simp
      have hsz2 : (jn c (kk.map (ntext ns f))).size ≤ 100000 := by
        rcases hc with ⟨rfl, rfl⟩ | ⟨rfl, rfl⟩
        · simpa using hsz
        · simp [ByteArray.size_append] at hsz; omega
      obtain ⟨tx, htx⟩ : ∃ tx, tx = kk.map (ntext ns f) := ⟨_, rfl⟩
      rw [← htx] at hsz hsz2 ⊢
      have htl : tx.length = kl := by rw [htx, List.length_map]; exact HKL.out
      have HTX := Lib.hid htx
      clear htx hsz
      obtain ⟨out, hout⟩ : ∃ out, out = (if rw_ = true then jn 59 tx else bs [40] ++ jn 124 tx ++ bs [41]) := ⟨_, rfl⟩
      rw [← hout]
      have HC := Lib.hid (show (rw_ = true ∧ c = 59 ∧ out = jn c tx) ∨ (rw_ = false ∧ c = 124 ∧ out = bs [40] ++ jn c tx ++ bs [41]) by
        rcases hc with ⟨rfl, rfl⟩ | ⟨rfl, rfl⟩
        · exact .inl ⟨rfl, rfl, by rw [hout]; rfl⟩
        · exact .inr ⟨rfl, rfl, by rw [hout]; rfl⟩)
      clear hout hc
      go_enter Try.func36, Try.ntmps36
      go_wp2
      go_loopg [6, 7, 8, 25] kl (fun mm v6 _ _ v25 wr => ∃ k, mm = kl - k ∧ k ≤ kl ∧ v25 = .int .i64 k ∧ v6 = .string (jn c (tx.take k)) ∧ Fr [] w wr ∧ Blk wr w.heap.size 91 [.string wd, .bool rw_, .slice a1 kl c1])
      case atStart => exact ⟨0, rfl, Nat.zero_le _, rfl, rfl, (Fr.refl _ _).alloc _, hP⟩
      case round =>
        obtain ⟨k, rfl, hk, rfl, rfl, hfr, hB⟩ := hrel
        obtain ⟨wo, rfl⟩ : ∃ wo : World, wo = wr := ⟨_, rfl⟩
        have hq1 := hB.cell 1 rfl
        by_cases hlt : k < kl
        · obtain ⟨q, hq⟩ : ∃ q, kk[k]? = some q := ⟨_, List.getElem?_eq_getElem (by rw [HKL.out]; exact hlt)⟩
          have htq : tx[k]? = some (ntext ns f q) := by rw [HTX.out, List.getElem?_map, hq]; rfl
          have hnq := HKN.out q (List.mem_of_getElem? hq)
          have hs1 : (ntext ns f q).size ≤ 100000 := Nat.le_trans (jn_mem (c := c) (List.mem_of_getElem? htq)) hsz2
          have hs2 : (jn c (tx.take k)).size ≤ 100000 := Nat.le_trans (jn_take c tx k) hsz2
          have HTK := Lib.hid (take_succ_of htq)
          obtain ⟨g2, o2, rfl, hcq, hI⟩ := (KS.out.frame hfr (by simp)).int_at hq
          have HNQ := Lib.hid hnq
          have LPo := Lib.hid (HP.out.frame hfr (by simp) (by simp))
          clear hq htq hnq
          by_cases hk0 : k = 0
          · subst hk0
            simp only [Nat.add_zero] at hcq
            have hz0 : (jn c ([] : List ByteArray)).size ≤ 100000 := Nat.zero_le _
            have hj : jn c (tx.take (0 + 1)) = ntext ns f q := by rw [HTK.out]; simp [jn, jt, append_bs_nil]
            have HJ := Lib.hid hj
            clear hj
            go_wp2_with (go_at_call 36; refine (IH.out s b K i bad ns deep most _ q LPo.out hn HNQ.out hs1).mono ?_; rintro e w2 ⟨rfl, hf2⟩)
            go_roundg (kl - (0 + 1))
            case rel => exact ⟨0 + 1, rfl, by omega, by go_num, by rw [HJ.out]; exact congrArg Value.string (bs_nil_append _), hfr.trans hf2, hB.fr hf2 (by simp)⟩
            case measure => omega
          · have hkp : 0 < k := by omega
            have hj : jn c (tx.take (k + 1)) = jn c (tx.take k) ++ bs [c] ++ ntext ns f q := by
              rw [HTK.out, jn_snoc _ (fun h => by have := congrArg List.length h; rw [List.length_take] at this; simp only [List.length_nil] at this; omega)]
            have HJ := Lib.hid hj
            clear hj hk0
            rcases HC.out with ⟨rfl, rfl, _⟩ | ⟨rfl, rfl, _⟩
            all_goals
              go_wp2_with (go_at_call 36; refine (IH.out s b K i bad ns deep most _ q LPo.out hn HNQ.out hs1).mono ?_; rintro e w2 ⟨rfl, hf2⟩)
              go_roundg (kl - (k + 1))
            case rel => exact ⟨k + 1, rfl, by omega, by go_num, by rw [HJ.out]; rfl, hfr.trans hf2, hB.fr hf2 (by simp)⟩
            case measure => omega
            case rel => exact ⟨k + 1, rfl, by omega, by go_num, by rw [HJ.out]; rfl, hfr.trans hf2, hB.fr hf2 (by simp)⟩
            case measure => omega
        · obtain rfl : k = kl := by omega
          have htt : tx.take k = tx := by rw [← htl]; exact List.take_length
          rw [htt]
          have hs2 := hsz2
          rcases HC.out with ⟨rfl, rfl, ho⟩ | ⟨rfl, rfl, ho⟩
          all_goals
            have HO := Lib.hid ho
            clear ho
            go_wp2
            go_ret
            exact ⟨by rw [HO.out]; rfl, hfr⟩
end Go.Proofs.Ytklggjbmkgdkpaa
