/- word's contracts, in the evaluator's form. -/
import Derived.Test.YtnmeeafnobfobaaVmR
import Derived.Test.YtnmeeafnobfobaaWordOf
import Derived.Test.YtnmeeafnobfobaaWord
namespace Go.Proofs.Ytnmeeafnobfobaa.VM
open Go.RowKit
set_option linter.unusedVariables false
theorem ent_wordOf : Ent Try.prog 44 := ⟨_, Try.func44, by kernel_rfl, by kernel_rfl⟩
theorem ent_wordTwo : Ent Try.prog 60 := ⟨_, Try.func60, by kernel_rfl, by kernel_rfl⟩
theorem wordOf1 (x : Int) (hx : 0 ≤ x ∧ x ≤ 18446744073709551615) : Det Try.prog 44 [.o (.int .u64 x), .o (.int .i64 1)] [] (vS (Sp.ofB x 1)) [] := det_flat ent_wordOf rfl rfl fun w => of_any x 1 w hx.1 (by omega) (by decide) (by decide)
theorem wordOf2 (x : Int) (hx : 0 ≤ x ∧ x ≤ 18446744073709551615) : Det Try.prog 44 [.o (.int .u64 x), .o (.int .i64 2)] [] (vS (Sp.ofB x 2)) [] := det_flat ent_wordOf rfl rfl fun w => of_any x 2 w hx.1 (by omega) (by decide) (by decide)
theorem wordOf4 (x : Int) (hx : 0 ≤ x ∧ x ≤ 18446744073709551615) : Det Try.prog 44 [.o (.int .u64 x), .o (.int .i64 4)] [] (vS (Sp.ofB x 4)) [] := det_flat ent_wordOf rfl rfl fun w => of_any x 4 w hx.1 (by omega) (by decide) (by decide)
theorem wordOf6 (x : Int) (hx : 0 ≤ x ∧ x ≤ 18446744073709551615) : Det Try.prog 44 [.o (.int .u64 x), .o (.int .i64 6)] [] (vS (Sp.ofB x 6)) [] := det_flat ent_wordOf rfl rfl fun w => of_any x 6 w hx.1 (by omega) (by decide) (by decide)
/-- The number at a place, and its error. -/
def n2 (s : ByteArray) (p : Int) : Int := Sp.num 65536 (Sp.textS s p 2).data.toList
def n4 (s : ByteArray) (p : Int) : Int := Sp.num 4294967296 (Sp.textS s p 4).data.toList
theorem wordTwo (s : ByteArray) (p : Int) (hs : s.size ≤ maxLen) (hp : p ≤ 4611686018427387904) : Det Try.prog 60 [.o (.str s), .o (.int .i64 p)] [] (.t [.o (.int .u16 (n2 s p)), .o (.int .i64 (Sp.textE s p 2))]) [] := det_flat ent_wordTwo rfl rfl fun w => two_any s p w hs hp
end Go.Proofs.Ytnmeeafnobfobaa.VM
