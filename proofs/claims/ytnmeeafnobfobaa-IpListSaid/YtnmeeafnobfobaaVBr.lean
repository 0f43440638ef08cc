/- the answers' contracts of layers 1 and 2, in the evaluator's form. -/
import Derived.Test.YtnmeeafnobfobaaVmR
import Derived.Test.YtnmeeafnobfobaaRef
import Derived.Test.YtnmeeafnobfobaaTurn
namespace Go.Proofs.Ytnmeeafnobfobaa.VM
open Go.RowKit
set_option linter.unusedVariables false
theorem ent_rOf : Ent Try.prog 46 := ⟨_, Try.func46, by kernel_rfl, by kernel_rfl⟩
theorem ent_rSum : Ent Try.prog 47 := ⟨_, Try.func47, by kernel_rfl, by kernel_rfl⟩
theorem ent_rRight : Ent Try.prog 50 := ⟨_, Try.func50, by kernel_rfl, by kernel_rfl⟩
theorem below_of_eq {w : World} {f : FuncId} {args : Array Value} {v : Value} (h : Calls Try.prog f args w fun e w' => e = .returned v ∧ w = w') : Calls Try.prog f args w fun e w' => e = .returned v ∧ Below w.heap.size w w' :=
  h.mono fun e w' ⟨h1, h2⟩ => ⟨h1, h2 ▸ Below.refl _ _⟩
theorem rOf2 (x : Int) (hx : 0 ≤ x ∧ x ≤ 18446744073709551615) : Det Try.prog 46 [.o (.int .u64 x), .o (.int .i64 2)] [] (vS (Sp.ofB x 2)) [] := det_flat ent_rOf rfl rfl fun w => rof_any x 2 w hx.1 (by omega) (by decide) (by decide)
theorem rOf4 (x : Int) (hx : 0 ≤ x ∧ x ≤ 18446744073709551615) : Det Try.prog 46 [.o (.int .u64 x), .o (.int .i64 4)] [] (vS (Sp.ofB x 4)) [] := det_flat ent_rOf rfl rfl fun w => rof_any x 4 w hx.1 (by omega) (by decide) (by decide)
theorem rOf6 (x : Int) (hx : 0 ≤ x ∧ x ≤ 18446744073709551615) : Det Try.prog 46 [.o (.int .u64 x), .o (.int .i64 6)] [] (vS (Sp.ofB x 6)) [] := det_flat ent_rOf rfl rfl fun w => rof_any x 6 w hx.1 (by omega) (by decide) (by decide)
theorem rSum (s : ByteArray) (hs : s.size ≤ maxLen) : Det Try.prog 47 [.o (.str s)] [] (vI .u16 (65535 - Sp.sumB s)) [] := det_flat ent_rSum rfl rfl fun w => below_of_eq (rsumOf_any s w hs)
theorem rRight (s : ByteArray) (hs : s.size ≤ maxLen) : Det Try.prog 50 [.o (.str s)] [] (vB (Sp.sumB s == 65535)) [] := det_flat ent_rRight rfl rfl fun w => below_of_eq (rright_any s w hs)
end Go.Proofs.Ytnmeeafnobfobaa.VM
