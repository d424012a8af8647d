/- Walks: firing, as both sides offer it. -/
import Derived.Test.YtochebmkfdfbhaaW6
set_option linter.all false
namespace Go.Proofs.Ytochebmkfdfbhaa
open Go.RowKit

def NetM (N : Net) (m : List UInt8) : Prop := ∀ x, x ∈ N.ts → InM x.pre m ∧ InM x.post m
def fireI (N : Net) (m : List UInt8) (t : Int) : List UInt8 × Bool :=
  match N.ts[t.toNat]? with
  | some x => if (decide (0 ≤ t) && decide (t ≤ (N.ts.length : Int) - 1)) && enabledI x m then fireT x m else ([], false)
  | none => ([], false)
theorem fireI_out {N : Net} {m : List UInt8} {t : Int} (h : (decide (0 ≤ t) && decide (t ≤ (N.ts.length : Int) - 1)) = false) : fireI N m t = ([], false) := by
  unfold fireI
  split
  · rw [h]; rfl
  · rfl
theorem fireI_at {N : Net} {m : List UInt8} {i : Nat} (hi : i < N.ts.length) : fireI N m (i : Int) = if enabledI N.ts[i] m then fireT N.ts[i] m else ([], false) := by
  unfold fireI
  have h : (decide ((0 : Int) ≤ (i : Int)) && decide ((i : Int) ≤ (N.ts.length : Int) - 1)) = true := by simp; omega
  rw [Int.toNat_natCast, List.getElem?_eq_getElem hi]
  simp only [h, Bool.true_and]

end Go.Proofs.Ytochebmkfdfbhaa
