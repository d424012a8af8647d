/- Contracts of the functions of the program and of the reference, each proved by a walk through its code. -/
import Derived.Test.YtkfpoagjlaldgaaGPskWords
import Derived.Test.YtkfpoagjlaldgaaGPskRetF
set_option linter.all false
set_option maxRecDepth 20000
namespace Go.Proofs.Ytkfpoagjlaldgaa
open Go.RowKit

mutual
theorem lay_len (t : Tr) (h : okT t) (base : Nat) : (lay base t).length ≤ 6 * cntT t := by
  cases t with
  | edge n m => simp only [lay, layEdge, cntT]; split <;> simp
  | par rows =>
    have := layRows_len2 rows h.2 base
    have : rows.length ≠ 0 := fun h0 => h.1 (List.eq_nil_of_length_eq_zero h0)
    simp only [lay, cntT, List.length_append, List.length_cons, List.length_nil]; omega
theorem layParts_len2 (r : List Tr) (h : okRow r) (base : Nat) : (layParts base r).1.length ≤ 6 * cntRow r := by
  cases r with
  | nil => simp [layParts]
  | cons t ts =>
    have h1 := lay_len t h.1 base
    have h2 := layParts_len2 ts h.2 (base + (lay base t).length)
    simp only [layParts, cntRow, List.length_append]; omega
theorem layRows_len2 (rs : List (List Tr)) (h : okRows rs) (base : Nat) : (layRows base rs).1.length + rs.length ≤ 6 * cntRows rs := by
  cases rs with
  | nil => simp [layRows]
  | cons r rs =>
    have h1 := layParts_len2 r h.1.2 base
    have h2 := layRows_len2 rs h.2 (base + (layRow base r).length)
    rw [layRows_cons]
    simp only [layRow, cntRows, List.length_append, List.length_cons, List.length_nil] at h2 ⊢; omega
end
theorem layRow_len (r : List Tr) (h : okRow r) (base : Nat) : (layRow base r).length ≤ 6 * cntRow r + 1 := by
  have := layParts_len2 r h base
  simp only [layRow, List.length_append, List.length_cons, List.length_nil]; omega

end Go.Proofs.Ytkfpoagjlaldgaa

