/- Contracts of the functions of the program and of the reference, each proved by a walk through its code. -/
import Derived.Test.YtkfpoagjlaldgaaRows
import Derived.Test.YtkfpoagjlaldgaaGPskParse
import Derived.Test.YtkfpoagjlaldgaaGPskPr1
import Derived.Deep.QuietTactic
import Derived.BigQuiet
set_option linter.all false
set_option maxRecDepth 20000
namespace Go.Proofs.Ytkfpoagjlaldgaa
open Go.RowKit

def RetBoolN (b : Bool) (w : World) (e : Ending) (w' : World) : Prop := e = .returned (.bool b) ∧ ∃ n, w' = w.drewN n

theorem nameOk_false {l : List UInt8} {i : Nat} {c : UInt8} (h : l[i]? = some c) (hb : chName c = false ∨ (i = 0 ∧ letterB c = false)) : nameOk l = false := by
  unfold nameOk
  rcases hb with hb | ⟨rfl, hb⟩
  · have : l.all chName = false := by
      rw [List.all_eq_false]; exact ⟨c, List.mem_of_getElem? h, by simp [hb]⟩
    simp [this]
  · cases l with
    | nil => simp at h
    | cons a l => simp at h; subst h; simp [hb]

theorem nameOk_true {l : List UInt8} (h : ∀ i c, l[i]? = some c → chName c = true ∧ (i = 0 → letterB c = true)) : nameOk l = bIn l.length 1 6 := by
  have h1 : l.all chName = true := by
    rw [List.all_eq_true]; intro x hx
    obtain ⟨i, hi⟩ := List.getElem?_of_mem hx
    exact (h i x hi).1
  have h2 : (l.take 1).all letterB = true := by
    cases l with
    | nil => rfl
    | cons a l => simpa using (h 0 a rfl).2 rfl
  unfold nameOk bIn
  rw [h1, h2, Bool.eq_iff_iff]
  simp
  omega

/-- The five sorts of bytes, by the four comparisons as the walk spells them. -/
theorem byte_sorts (c : UInt8) :
    (decide ((97 : Int) ≤ (c.toNat : Int)) = false ∧ decide ((48 : Int) ≤ (c.toNat : Int)) = false ∧ chName c = false ∧ letterB c = false) ∨
    (decide ((97 : Int) ≤ (c.toNat : Int)) = false ∧ decide ((48 : Int) ≤ (c.toNat : Int)) = true ∧ decide ((c.toNat : Int) ≤ 57) = true ∧ chName c = true ∧ letterB c = false) ∨
    (decide ((97 : Int) ≤ (c.toNat : Int)) = false ∧ decide ((48 : Int) ≤ (c.toNat : Int)) = true ∧ decide ((c.toNat : Int) ≤ 57) = false ∧ chName c = false ∧ letterB c = false) ∨
    (decide ((97 : Int) ≤ (c.toNat : Int)) = true ∧ decide ((c.toNat : Int) ≤ 122) = true ∧ decide ((48 : Int) ≤ (c.toNat : Int)) = true ∧ decide ((c.toNat : Int) ≤ 57) = false ∧ chName c = true ∧ letterB c = true) ∨
    (decide ((97 : Int) ≤ (c.toNat : Int)) = true ∧ decide ((c.toNat : Int) ≤ 122) = false ∧ decide ((48 : Int) ≤ (c.toNat : Int)) = true ∧ decide ((c.toNat : Int) ≤ 57) = false ∧ chName c = false ∧ letterB c = false) := by
  simp only [chName, letterB, UInt8.le_iff_toNat_le, decide_eq_true_eq, decide_eq_false_iff_not, Bool.or_eq_true, Bool.and_eq_true, Bool.or_eq_false_iff, Bool.and_eq_false_iff, UInt8.reduceToNat]
  omega

set_option maxHeartbeats 1000000 in
theorem isName_any (s : ByteArray) (w : World) (hs : s.size ≤ 9223372036854775807) :
    Calls Try.prog 45 #[.string s] w (RetBoolN (nameOk s.data.toList) w) := by
  go_enter Try.func45, Try.ntmps45
  go_wp2
  go_loopw [3, 4, 5] (fun i _ _ wr => ∃ k n : Nat, k ≤ s.size ∧ i = .int .i64 k ∧ wr = w.drewN n ∧ ∀ j c, j < k → s.data.toList[j]? = some c → chName c = true ∧ (j = 0 → letterB c = true)) (fun i _ _ _ => s.size - (intOf i).toNat)
  case atStart => exact ⟨0, 0, Nat.zero_le _, rfl, rfl, fun j c hj => by omega⟩
  case round =>
    obtain ⟨k, n, hk, rfl, rfl, hok⟩ := hrel
    have HOK := Lib.hid hok
    clear hok
    by_cases hlt : k < s.size
    · have hget : s.data.toList[k]? = some s[k] := by simp [hlt]; rfl
      have HG := Lib.hid hget
      clear hget
      have hsnoc : chName s[k] = true → (k = 0 → letterB s[k] = true) → ∀ j c, j < k + 1 → s.data.toList[j]? = some c → chName c = true ∧ (j = 0 → letterB c = true) := by
        intro h1 h2 j c hj hc
        by_cases he : j = k
        · subst he; rw [HG.out] at hc; cases hc; exact ⟨h1, h2⟩
        · exact HOK.out j c (by omega) hc
      have HS := Lib.hid hsnoc
      clear hsnoc
      rcases byte_sorts s[k] with ⟨h1, h2, h3, h4⟩ | ⟨h1, h2, h5, h3, h4⟩ | ⟨h1, h2, h5, h3, h4⟩ | ⟨h1, h6, h2, h5, h3, h4⟩ | ⟨h1, h6, h2, h5, h3, h4⟩
      · have E := Lib.hid (nameOk_false HG.out (.inl h3))
        clear h3 h4
        go_wp2
        go_quiet (fail)
        go_wp2
        go_ret
        exact ⟨by rw [E.out]; rfl, _, rfl⟩
      · by_cases h0 : k = 0
        · have E := Lib.hid (nameOk_false HG.out (.inr ⟨h0, h4⟩))
          subst h0
          clear h3 h4
          go_wp2
          go_quiet (fail)
          go_wp2
          go_ret
          exact ⟨by rw [E.out]; rfl, _, rfl⟩
        · have hk0 : ((k : Int) == 0) = false := by simp; omega
          have H := Lib.hid (HS.out h3 (fun h => absurd h h0))
          clear h3 h4 h0
          go_wp2
          go_quiet (fail)
          go_wp2
          go_roundw
          case rel => exact ⟨k + 1, _, by omega, by go_num, rfl, H.out⟩
          case measure => simp [intOf]; omega
      · have E := Lib.hid (nameOk_false HG.out (.inl h3))
        clear h3 h4
        go_wp2
        go_quiet (fail)
        go_wp2
        go_ret
        exact ⟨by rw [E.out]; rfl, _, rfl⟩
      · have H := Lib.hid (HS.out h3 (fun _ => h4))
        clear h3 h4
        go_wp2
        go_quiet (fail)
        go_wp2
        go_roundw
        case rel => exact ⟨k + 1, _, by omega, by go_num, rfl, H.out⟩
        case measure => simp [intOf]; omega
      · have E := Lib.hid (nameOk_false HG.out (.inl h3))
        clear h3 h4
        go_wp2
        go_quiet (fail)
        go_wp2
        go_ret
        exact ⟨by rw [E.out]; rfl, _, rfl⟩
    · obtain rfl : k = s.size := by omega
      have hE : nameOk s.data.toList = bIn s.size 1 6 := by
        rw [nameOk_true (fun i c hc => HOK.out i c (by have := (List.getElem?_eq_some_iff.1 hc).1; simpa using this) hc)]
        simp
      have E := Lib.hid hE
      clear hE
      go_wp2_with (go_at_call 49; refine (within_any _ _ _ _).mono ?_; rintro e w' ⟨rfl, rfl⟩)
      go_ret
      exact ⟨by rw [E.out]; rfl, _, rfl⟩
end Go.Proofs.Ytkfpoagjlaldgaa

