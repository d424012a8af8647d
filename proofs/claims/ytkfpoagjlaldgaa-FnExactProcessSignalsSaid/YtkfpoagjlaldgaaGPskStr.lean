/- Contracts of the functions of the program and of the reference, each proved by a walk through its code. -/
import Derived.Test.YtkfpoagjlaldgaaGPskEdges
import Derived.Test.YtkfpoagjlaldgaaGPskLp5
set_option linter.all false
set_option maxRecDepth 20000
namespace Go.Proofs.Ytkfpoagjlaldgaa
open Go.RowKit

/-- The text of a mark. -/
def digs : Nat → Nat → ByteArray → ByteArray
  | 0, _, out => out
  | f + 1, k, out => if k = 0 then out else digs f (k / 10) (bs [UInt8.ofNat (48 + k % 10)] ++ out)
def mkText (k : Nat) : ByteArray := if k = 0 then bs [109, 48] else bs [109] ++ digs 40 k (bs [])
def marks (k n : Nat) : List ByteArray := (List.range n).map (fun i => mkText (k + i))
end Go.Proofs.Ytkfpoagjlaldgaa

