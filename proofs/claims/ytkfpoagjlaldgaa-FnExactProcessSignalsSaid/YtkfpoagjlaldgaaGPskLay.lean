/- Contracts of the functions of the program and of the reference, each proved by a walk through its code. -/
import Derived.Test.YtkfpoagjlaldgaaGPskParse
set_option linter.all false
set_option maxRecDepth 20000
namespace Go.Proofs.Ytkfpoagjlaldgaa
open Go.RowKit

structure Nd where
  word : ByteArray
  row : Bool
  kids : List Int

def bs (l : List UInt8) : ByteArray := ⟨l.toArray⟩
/-- The nodes of a leaf. -/
def layEdge (base : Nat) (n : ByteArray) (m : UInt8) : List Nd :=
  if m == 43 || m == 45 then [⟨n ++ bs [m], false, []⟩]
  else [⟨n ++ bs [114, 43], false, []⟩, ⟨n ++ bs [97, 43], false, []⟩, ⟨n ++ bs [114, 45], false, []⟩, ⟨n ++ bs [97, 45], false, []⟩, ⟨bs [], true, [base, base + 1, base + 2, base + 3]⟩]

mutual
/-- The nodes of a tree, laid from a place on; the tree's own node is the last one. -/
def lay (base : Nat) : Tr → List Nd
  | .edge n m => layEdge base n m
  | .par rows => let x := layRows base rows; x.1 ++ [⟨bs [], false, x.2⟩]
/-- The nodes of parts one behind the other, and the numbers of their own nodes. -/
def layParts (base : Nat) : List Tr → List Nd × List Int
  | [] => ([], [])
  | t :: ts => let a := lay base t; let x := layParts (base + a.length) ts; (a ++ x.1, (base + a.length - 1 : Nat) :: x.2)
def layRows (base : Nat) : List (List Tr) → List Nd × List Int
  | [] => ([], [])
  | r :: rs => let y := layParts base r; let a := y.1 ++ [⟨bs [], true, y.2⟩]; let x := layRows (base + a.length) rs; (a ++ x.1, (base + a.length - 1 : Nat) :: x.2)
end
def layRow (base : Nat) (r : List Tr) : List Nd := (layParts base r).1 ++ [⟨bs [], true, (layParts base r).2⟩]

theorem layRows_cons (base : Nat) (r : List Tr) (rs : List (List Tr)) : layRows base (r :: rs) = (layRow base r ++ (layRows (base + (layRow base r).length) rs).1, ((base + (layRow base r).length - 1 : Nat) : Int) :: (layRows (base + (layRow base r).length) rs).2) := rfl
theorem layParts_append (r : List Tr) (t : Tr) : ∀ base, layParts base (r ++ [t]) =
    ((layParts base r).1 ++ lay (base + (layParts base r).1.length) t, (layParts base r).2 ++ [((base + (layParts base r).1.length + (lay (base + (layParts base r).1.length) t).length - 1 : Nat) : Int)]) := by
  induction r with
  | nil => intro base; simp [layParts]
  | cons a r ih =>
    intro base
    simp only [List.cons_append, layParts, ih, List.append_assoc, List.length_append, Nat.add_assoc]
theorem layRows_append (rs : List (List Tr)) (r : List Tr) : ∀ base, layRows base (rs ++ [r]) =
    ((layRows base rs).1 ++ layRow (base + (layRows base rs).1.length) r, (layRows base rs).2 ++ [((base + (layRows base rs).1.length + (layRow (base + (layRows base rs).1.length) r).length - 1 : Nat) : Int)]) := by
  induction rs with
  | nil => intro base; simp [layRows_cons, layRows]
  | cons a rs ih =>
    intro base
    simp only [List.cons_append, layRows_cons, ih, List.append_assoc, List.length_append, Nat.add_assoc]

/-- A node in memory. -/
def nodeT : Ty Nd where
  size := 3
  rep K w cs x := ∃ v, cs = [.string x.word, .bool x.row, v] ∧ x.word.size ≤ maxLen ∧ SL K 3 Ty.int w v x.kids
  len h := by obtain ⟨v, rfl, _⟩ := h; rfl
  one h u hu := by
    obtain ⟨v, rfl, _, a, cap, rfl, _⟩ := h
    simp at hu; rcases hu with rfl | rfl | rfl <;> rfl
  frame h f hs := by obtain ⟨v, rfl, h0, h⟩ := h; exact ⟨v, rfl, h0, h.frame f hs⟩
  mono h hk := by obtain ⟨v, rfl, h0, h⟩ := h; exact ⟨v, rfl, h0, h.mono hk⟩
  bound h := by obtain ⟨v, rfl, h0, h⟩ := h; exact ⟨v, rfl, h0, h.bound⟩

end Go.Proofs.Ytkfpoagjlaldgaa

