/- Walks: library functions over slices, given a function. -/
import Derived.Test.YtochebmkfdfbhaaW1
import Derived.Test.YtochebmkfdfbhaaB9
set_option linter.all false
namespace Go.Proofs.Ytochebmkfdfbhaa
open Go.RowKit

structure Tn where
  pre : List Int
  post : List Int
  deriving DecidableEq
abbrev tnD (t : Tn) : List DV := [vI t.pre, vI t.post]
abbrev tnA (t : Tn) : AV := .agg [.d (vI t.pre), .d (vI t.post)]
abbrev tsL (l : List Tn) : List (List DV) := l.map tnD
theorem tsL_get {l : List Tn} {k : Nat} (h : k < l.length) : (tsL l)[k]? = some [vI l[k].pre, vI l[k].post] := by
  simp [tsL, List.getElem?_map, List.getElem?_eq_getElem h]
theorem ints_at {l : List Int} {k : Nat} (h : k < l.length) : (ints l)[k]? = some [dI l[k]] := by
  simp [ints, List.getElem?_map, List.getElem?_eq_getElem h]

theorem leadsL_data (σ : Nat → Option Nat) : ∀ ds : List DV, AV.leadsL σ (ds.map .d) (ds.map .d)
  | [] => rfl
  | d :: ds => ⟨_, _, rfl, .same, leadsL_data σ ds⟩

def findI {α : Type} (p : α → Bool) (l : List α) : Int := if l.findIdx p < l.length then (l.findIdx p : Int) else -1
theorem findI_at {α : Type} {p : α → Bool} {l : List α} {k : Nat} (hk : k < l.length) (h : p l[k] = true) (hp : ∀ j (hj : j < k), p (l[j]'(by omega)) = false) : findI p l = (k : Int) := by
  have : l.findIdx p = k := (List.findIdx_eq hk).2 ⟨h, fun j hj => by simpa using hp j hj⟩
  rw [findI, this, if_pos hk]
theorem findI_none {α : Type} {p : α → Bool} {l : List α} (hp : ∀ j (hj : j < l.length), p l[j] = false) : findI p l = -1 := by
  have : l.findIdx p = l.length := List.findIdx_eq_length.2 (fun x hx => by obtain ⟨j, hj, rfl⟩ := List.getElem_of_mem hx; exact hp j hj)
  rw [findI, this, if_neg (Nat.lt_irrefl _)]
theorem findI_any {α : Type} (p : α → Bool) (l : List α) : decide (0 ≤ findI p l) = l.any p := by
  unfold findI
  by_cases h : l.findIdx p < l.length
  · rw [if_pos h, List.any_eq_true.2 (List.findIdx_lt_length.1 h)]; simp
  · rw [if_neg h]
    have : l.any p = false := by
      rw [List.any_eq_false]
      intro x hx hp
      exact h (List.findIdx_lt_length.2 ⟨x, hx, hp⟩)
    rw [this]; rfl

end Go.Proofs.Ytochebmkfdfbhaa
