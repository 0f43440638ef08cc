/- word.Four's contract, in the evaluator's form. -/
import Derived.Test.YtnmeeafnobfobaaVBw
namespace Go.Proofs.Ytnmeeafnobfobaa.VM
open Go.RowKit
set_option linter.unusedVariables false
theorem ent_wordFour : Ent Try.prog 49 := ⟨_, Try.func49, by kernel_rfl, by kernel_rfl⟩
theorem wordFour (s : ByteArray) (p : Int) (hs : s.size ≤ maxLen) (hp : p ≤ 4611686018427387904) : Det Try.prog 49 [.o (.str s), .o (.int .i64 p)] [] (.t [.o (.int .u32 (n4 s p)), .o (.int .i64 (Sp.textE s p 4))]) [] := det_flat ent_wordFour rfl rfl fun w => four_any s p w hs hp
end Go.Proofs.Ytnmeeafnobfobaa.VM
