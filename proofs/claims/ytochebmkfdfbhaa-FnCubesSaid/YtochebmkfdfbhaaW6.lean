/- Walks: firing a transition, both sides. -/
import Derived.Test.YtochebmkfdfbhaaW5
set_option linter.all false
namespace Go.Proofs.Ytochebmkfdfbhaa
open Go.RowKit

def clearAll (ps : List Int) (m : List UInt8) : List UInt8 := ps.foldl (fun m p => m.set p.toNat 48) m
theorem clear_len (ps : List Int) : ∀ m : List UInt8, (clearAll ps m).length = m.length := by
  induction ps with
  | nil => intro m; rfl
  | cons p ps ih => intro m; simp only [clearAll, List.foldl_cons]; rw [show ps.foldl (fun m p => m.set p.toNat 48) (m.set p.toNat 48) = clearAll ps (m.set p.toNat 48) from rfl, ih]; simp
theorem clear_take {ps : List Int} {k : Nat} (hk : k < ps.length) (m : List UInt8) : clearAll (ps.take (k + 1)) m = (clearAll (ps.take k) m).set ps[k].toNat 48 := by
  rw [List.take_add_one, List.getElem?_eq_getElem hk]
  simp only [clearAll, List.foldl_append, Option.toList, List.foldl_cons, List.foldl_nil]
def putAll : List Int → List UInt8 → Option (List UInt8)
  | [], m => some m
  | p :: ps, m => if decide (at0 m p = 49) then none else putAll ps (m.set p.toNat 49)
def fireT (t : Tn) (m : List UInt8) : List UInt8 × Bool :=
  match putAll t.post (clearAll t.pre m) with
  | some m' => (m', true)
  | none => ([], false)
theorem byteEls_set (m : List UInt8) (i : Nat) (b : UInt8) : (byteEls m).set i [dB b] = byteEls (m.set i b) := by simp [byteEls, List.map_set]
theorem byteEls_get {m : List UInt8} {k : Nat} (h : k < m.length) : (byteEls m)[k]? = some [dB (m.getD k 0)] := by
  simp [byteEls, List.getElem?_map, List.getElem?_eq_getElem h, List.getD]

end Go.Proofs.Ytochebmkfdfbhaa
