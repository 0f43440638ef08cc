/- The seat's program, known to the evaluator. -/
import Derived.Test.YtmdfkggflainbaaVmR
import Derived.Test.YtmdfkggflainbaaVmS
namespace Go.Proofs.Ytmdfkggflainbaa.VM
open Go.RowKit
theorem known : Known Try.prog eqsT := known_of (by kernel_rfl)
theorem mix : Try.prog.follows .mixedOrders = true := by kernel_rfl
end Go.Proofs.Ytmdfkggflainbaa.VM
