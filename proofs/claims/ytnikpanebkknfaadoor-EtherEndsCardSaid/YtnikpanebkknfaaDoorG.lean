/- What the evaluator is told of this program: the structs that are compared, and how many blocks calls lay. -/
import Derived.Test.YtnikpanebkknfaaDoorProg
namespace Go.Proofs.YtnikpanebkknfaaDoor.VM
def eqsT : List Nat := [46, 48, 28]
def newsT (f : Nat) : Nat :=
  if f = 48 then 1 else if f = 64 then 1 else 0
end Go.Proofs.YtnikpanebkknfaaDoor.VM
