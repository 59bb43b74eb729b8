/- VecOps: the walks of vec's own functions. -/
import Derived.Test.YtbemkefcaceekaaGreatDoorVecBase
set_option linter.unusedVariables false
set_option maxRecDepth 100000
namespace Go.Proofs.YtbemkefcaceekaaGreatDoor
open Go.RowKit Go.Proofs.YtbemkefcaceekaaGreatDoorW.PrintWords

def mrg (a b : V7) : V7 := fun i => max (a i) (b i)
def lst (a b : V7) : V7 := fun i => min (a i) (b i)

def mix (a b : V7) (k : Nat) : V7 := fun i => if i < k then max (a i) (b i) else a i

def mix' (a b : V7) (k : Nat) : V7 := fun i => if i < k then min (a i) (b i) else a i

end Go.Proofs.YtbemkefcaceekaaGreatDoor
