/- What functions of the program compute, said in the abstract logic; no conditions. -/
import Derived.Test.YtdcecoddecghdaaAbT

namespace Go.Proofs.Ytdcecoddecghdaa
open Go
set_option linter.unusedSimpArgs false
set_option linter.unusedVariables false
set_option maxRecDepth 100000
set_option maxHeartbeats 8000000
def D0 : Draws := fun _ => ([], [], [], [])
def noSp : Spec := fun _ _ _ _ => False
theorem noSp_ok {lo : Nat} : Sound Try.prog lo noSp := fun _ _ _ _ h => h.elim

end Go.Proofs.Ytdcecoddecghdaa
