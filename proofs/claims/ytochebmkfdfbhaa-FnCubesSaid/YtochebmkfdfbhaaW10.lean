/- Walks: joined lists, shared places. -/
import Derived.Test.YtochebmkfdfbhaaW9
import Derived.Test.YtochebmkfdfbhaaC2
set_option linter.all false
namespace Go.Proofs.Ytochebmkfdfbhaa
open Go.RowKit

abbrev nilA : AV := .d (.val (.slice none 0 0))
theorem ints_all (l : List Int) : (ints l).take l.length = ints l := by rw [List.take_of_length_le (by simp)]
theorem ints_len (l : List Int) : (ints l).length = l.length := List.length_map _
theorem vII_get {L : List (List Int)} {k : Nat} (h : k < L.length) : (L.map fun l => [vI l])[k]? = some [vI L[k]] := by simp [List.getElem?_map, List.getElem?_eq_getElem h]
theorem take_flat {L : List (List Int)} {k : Nat} (hk : k < L.length) : (L.take (k + 1)).flatten = (L.take k).flatten ++ L[k] := by
  rw [List.take_add_one, List.getElem?_eq_getElem hk, List.flatten_append]; simp
theorem take_flat_le (L : List (List Int)) (k : Nat) : (L.take k).flatten.length ≤ L.flatten.length := by
  conv => rhs; rw [← List.take_append_drop k L, List.flatten_append, List.length_append]
  omega
def shareI (a b : List Int) : Bool := a.any (fun n => b.any (fun x => decide (n = x)))
end Go.Proofs.Ytochebmkfdfbhaa
