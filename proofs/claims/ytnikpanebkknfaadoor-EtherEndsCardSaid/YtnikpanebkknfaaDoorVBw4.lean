/- word's contracts, in the evaluator's form. -/
import Derived.Test.YtnikpanebkknfaaDoorBase
import Derived.Test.YtnikpanebkknfaaDoorWordOf4
namespace Go.Proofs.YtnikpanebkknfaaDoor.VM
open Go.RowKit
set_option linter.unusedVariables false
variable {G : Ground}
theorem ent_wordOf : Ent Tryd.prog 43 := ⟨_, Tryd.func43, by kernel_rfl, by kernel_rfl⟩
theorem ent_rOf : Ent Tryd.prog 53 := ⟨_, Tryd.func53, by kernel_rfl, by kernel_rfl⟩
theorem wordOf2 (x : Int) (hx : 0 ≤ x ∧ x ≤ 18446744073709551615) : Det G Tryd.prog 43 [.o (.int .u64 x), .o (.int .i64 2)] [] (vS (Sp.ofB x 2)) [] := det_flat ent_wordOf rfl rfl fun w => of_any x 2 w hx.1 (by omega) (by decide) (by decide)
theorem rOf2 (x : Int) (hx : 0 ≤ x ∧ x ≤ 18446744073709551615) : Det G Tryd.prog 53 [.o (.int .u64 x), .o (.int .i64 2)] [] (vS (Sp.ofB x 2)) [] := det_flat ent_rOf rfl rfl fun w => rof_any x 2 w hx.1 (by omega) (by decide) (by decide)
theorem wordOf4 (x : Int) (hx : 0 ≤ x ∧ x ≤ 18446744073709551615) : Det G Tryd.prog 43 [.o (.int .u64 x), .o (.int .i64 4)] [] (vS (Sp.ofB x 4)) [] := det_flat ent_wordOf rfl rfl fun w => of_any x 4 w hx.1 (by omega) (by decide) (by decide)
theorem rOf4 (x : Int) (hx : 0 ≤ x ∧ x ≤ 18446744073709551615) : Det G Tryd.prog 53 [.o (.int .u64 x), .o (.int .i64 4)] [] (vS (Sp.ofB x 4)) [] := det_flat ent_rOf rfl rfl fun w => rof_any x 4 w hx.1 (by omega) (by decide) (by decide)
theorem wordOf6 (x : Int) (hx : 0 ≤ x ∧ x ≤ 18446744073709551615) : Det G Tryd.prog 43 [.o (.int .u64 x), .o (.int .i64 6)] [] (vS (Sp.ofB x 6)) [] := det_flat ent_wordOf rfl rfl fun w => of_any x 6 w hx.1 (by omega) (by decide) (by decide)
theorem rOf6 (x : Int) (hx : 0 ≤ x ∧ x ≤ 18446744073709551615) : Det G Tryd.prog 53 [.o (.int .u64 x), .o (.int .i64 6)] [] (vS (Sp.ofB x 6)) [] := det_flat ent_rOf rfl rfl fun w => rof_any x 6 w hx.1 (by omega) (by decide) (by decide)
end Go.Proofs.YtnikpanebkknfaaDoor.VM
