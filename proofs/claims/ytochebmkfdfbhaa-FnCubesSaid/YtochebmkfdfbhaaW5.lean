/- Walks: markings and firing, both sides. -/
import Derived.Test.YtochebmkfdfbhaaW4
set_option linter.all false
namespace Go.Proofs.Ytochebmkfdfbhaa
open Go.RowKit

def bit (b : UInt8) : Bool := decide ((b.toNat : Int) = 48) || decide ((b.toNat : Int) = 49)
def bitsB (m : List UInt8) (n : Int) : Bool := m.all bit && decide ((m.length : Int) = n)
theorem bstr_at {l : List UInt8} {k : Nat} (h : k < l.length) : (bstr l).data.toList[k]? = some l[k] := by
  rw [bstr_data, List.getElem?_eq_getElem h]
theorem all_bits {m : List UInt8} (h : ∀ j (hj : j < m.length), bit m[j] = true) : m.all bit = true := List.all_eq_true.2 (fun x hx => by obtain ⟨j, hj, rfl⟩ := List.getElem_of_mem hx; exact h j hj)
theorem not_bits {m : List UInt8} {j : Nat} (hj : j < m.length) (h : bit m[j] = false) : m.all bit = false := List.all_eq_false.2 ⟨_, List.getElem_mem hj, by simp [h]⟩

/-- Places of a list lie in a marking. -/
def InM (l : List Int) (m : List UInt8) : Prop := ∀ p, p ∈ l → 0 ≤ p ∧ p < m.length
def at0 (m : List UInt8) (p : Int) : Int := ((m.getD p.toNat 0).toNat : Int)
theorem bstr_getD {l : List UInt8} {k : Nat} (h : k < l.length) : (bstr l).data.toList[k]? = some (l.getD k 0) := by
  rw [bstr_data, List.getElem?_eq_getElem h]; simp [List.getD, List.getElem?_eq_getElem h]
def enabledI (t : Tn) (m : List UInt8) : Bool := !t.pre.any (fun p => decide (at0 m p = 48))
def readyS (t : Tn) (m : List UInt8) : Bool := t.pre.all (fun p => decide (at0 m p = 49))
end Go.Proofs.Ytochebmkfdfbhaa
