/- Walks: firing and sequences, as offered. -/
import Derived.Test.YtochebmkfdfbhaaW7
set_option linter.all false
namespace Go.Proofs.Ytochebmkfdfbhaa
open Go.RowKit

theorem rising_in {l : List Int} {lo hi : Int} (h : rising l lo hi = true) : ∀ p, p ∈ l → lo ≤ p ∧ p ≤ hi := by
  intro p hp
  obtain ⟨j, hj, rfl⟩ := List.getElem_of_mem hp
  unfold rising allN at h
  have := List.all_eq_true.1 h j (List.mem_range.2 hj)
  simp [riseAt, List.getD, List.getElem?_eq_getElem hj] at this
  exact this.1
theorem good_netM {N : Net} {m : List UInt8} (hg : goodN N = true) (hb : bitsB m N.places = true) : NetM N m := by
  intro x hx
  simp only [goodN, Bool.and_eq_true, Bool.not_eq_true', List.any_eq_false, decide_eq_true_eq] at hg
  have h1 := hg.2 x hx
  simp only [badT, Bool.or_eq_true, decide_eq_true_eq, not_or, Bool.not_eq_true', Bool.not_eq_false] at h1
  simp only [bitsB, Bool.and_eq_true, decide_eq_true_eq] at hb
  exact ⟨fun p hp => by have := rising_in h1.1.2 p hp; omega, fun p hp => by have := rising_in h1.2 p hp; omega⟩
theorem bits_at {m : List UInt8} {n : Int} {p : Int} (hb : bitsB m n = true) (hp : 0 ≤ p ∧ p < m.length) : at0 m p = 48 ∨ at0 m p = 49 := by
  simp only [bitsB, Bool.and_eq_true, List.all_eq_true] at hb
  have hl : p.toNat < m.length := by omega
  have := hb.1 m[p.toNat] (List.getElem_mem hl)
  simp only [bit, Bool.or_eq_true, decide_eq_true_eq] at this
  simpa [at0, List.getD, List.getElem?_eq_getElem hl] using this
theorem ready_enabled {t : Tn} {m : List UInt8} {n : Int} (hb : bitsB m n = true) (hp : InM t.pre m) : readyS t m = enabledI t m := by
  unfold readyS enabledI
  rw [List.any_eq_not_all_not, Bool.not_not]
  have : ∀ p, p ∈ t.pre → decide (at0 m p = 49) = !decide (at0 m p = 48) := by
    intro p h
    rcases bits_at hb (hp p h) with e | e <;> rw [e] <;> decide
  rw [Bool.eq_iff_iff, List.all_eq_true, List.all_eq_true]
  constructor
  · intro h p hp; rw [← this p hp]; exact h p hp
  · intro h p hp; rw [this p hp]; exact h p hp
theorem bits_len {m : List UInt8} {n : Int} (h : bitsB m n = true) : (m.length : Int) = n := by
  simp only [bitsB, Bool.and_eq_true, decide_eq_true_eq] at h; exact h.2
theorem good_places {N : Net} (h : goodN N = true) : 1 ≤ N.places ∧ N.places ≤ 30 ∧ N.ts.length ≤ 24 := by
  simp only [goodN, Bool.and_eq_true, decide_eq_true_eq] at h; omega

def FireI (N : Net) (m : List UInt8) (t : Int) : List UInt8 × Bool := if goodN N && bitsB m N.places then fireI N m t else ([], false)
theorem FireI_no {N : Net} {m : List UInt8} {t : Int} (h : (goodN N && bitsB m N.places) = false) : FireI N m t = ([], false) := by rw [FireI, h]; rfl
theorem FireI_yes {N : Net} {m : List UInt8} {t : Int} (h : (goodN N && bitsB m N.places) = true) : FireI N m t = fireI N m t := by rw [FireI, h]; rfl

end Go.Proofs.Ytochebmkfdfbhaa
