/- Contracts of the functions of the program and of the reference, each proved by a walk through its code. -/
import Derived.Test.YtkfpoagjlaldgaaGPskRetF
set_option linter.all false
set_option maxRecDepth 20000
namespace Go.Proofs.Ytkfpoagjlaldgaa
open Go.ChangeShapes Go.WideShapes Go.ChangeAt Go.RowKit
open Go.ChangeMaps (open_string shut_string)

theorem procOf_parse {s : ByteArray} {ts : List Tr} (h : procOf s = some ts) : s.size ≤ 200 ∧ ∃ j, parseRow (nx s) 1000 2 = some (ts, j) := by
  unfold procOf at h
  split at h
  · rename_i h0
    cases hp : parseRow (nx s) 1000 2 with
    | none => rw [hp] at h; cases h
    | some y =>
      obtain ⟨r, k⟩ := y
      rw [hp] at h
      simp only at h
      split at h
      · cases h; exact ⟨h0.1, k, rfl⟩
      · cases h
  · cases h
def rowsOf : Tr → List (List Tr)
  | .edge _ _ => []
  | .par rows => rows
theorem dep_rowsOf (t : Tr) : dep t = depRows (rowsOf t) := by cases t <;> simp [dep, rowsOf, depRows]
end Go.Proofs.Ytkfpoagjlaldgaa

