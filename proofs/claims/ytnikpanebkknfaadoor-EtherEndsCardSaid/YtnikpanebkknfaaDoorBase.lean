/- The seat's program, known to the evaluator. -/
import Derived.Test.YtnikpanebkknfaaDoorVmR
import Derived.Test.YtnikpanebkknfaaDoorVmS
namespace Go.Proofs.YtnikpanebkknfaaDoor.VM
open Go.RowKit
theorem known : Known Tryd.prog eqsT := known_of (by kernel_rfl)
theorem mix : Tryd.prog.follows .mixedOrders = true := by kernel_rfl
end Go.Proofs.YtnikpanebkknfaaDoor.VM
