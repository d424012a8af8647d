/- Contracts of the functions of the program and of the reference, each proved by a walk through its code. -/
import Derived.Test.YtkfpoagjlaldgaaGPskProc2
import Derived.ProofKit
import Derived.OpenShut
import Derived.ShutString
set_option linter.all false
set_option maxRecDepth 20000
namespace Go.Proofs.Ytkfpoagjlaldgaa
open Go.RowKit

end Go.Proofs.Ytkfpoagjlaldgaa

