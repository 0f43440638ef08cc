/- the answers' contracts of layers 1 and 2, in the evaluator's form. -/
import Derived.Test.YtlpeefemffmpmaaVmR
import Derived.Test.YtlpeefemffmpmaaRef
import Derived.Test.YtlpeefemffmpmaaTurn
namespace Go.Proofs.Ytlpeefemffmpmaa.VM
open Go.RowKit
set_option linter.unusedVariables false
theorem ent_rOf : Ent Try.prog 27 := ⟨_, Try.func27, by kernel_rfl, by kernel_rfl⟩
theorem ent_rSum : Ent Try.prog 20 := ⟨_, Try.func20, by kernel_rfl, by kernel_rfl⟩
theorem ent_rRight : Ent Try.prog 22 := ⟨_, Try.func22, by kernel_rfl, by kernel_rfl⟩
theorem ent_rHead : Ent Try.prog 26 := ⟨_, Try.func26, by kernel_rfl, by kernel_rfl⟩
theorem below_of_eq {w : World} {f : FuncId} {args : Array Value} {v : Value} (h : Calls Try.prog f args w fun e w' => e = .returned v ∧ w = w') : Calls Try.prog f args w fun e w' => e = .returned v ∧ Below w.heap.size w w' :=
  h.mono fun e w' ⟨h1, h2⟩ => ⟨h1, h2 ▸ Below.refl _ _⟩
theorem rOf2 (x : Int) (hx : 0 ≤ x ∧ x ≤ 18446744073709551615) : Det Try.prog 27 [.o (.int .u64 x), .o (.int .i64 2)] [] (vS (Sp.ofB x 2)) [] := det_flat ent_rOf rfl rfl fun w => rof_any x 2 w hx.1 (by omega) (by decide) (by decide)
theorem rOf4 (x : Int) (hx : 0 ≤ x ∧ x ≤ 18446744073709551615) : Det Try.prog 27 [.o (.int .u64 x), .o (.int .i64 4)] [] (vS (Sp.ofB x 4)) [] := det_flat ent_rOf rfl rfl fun w => rof_any x 4 w hx.1 (by omega) (by decide) (by decide)
theorem rOf6 (x : Int) (hx : 0 ≤ x ∧ x ≤ 18446744073709551615) : Det Try.prog 27 [.o (.int .u64 x), .o (.int .i64 6)] [] (vS (Sp.ofB x 6)) [] := det_flat ent_rOf rfl rfl fun w => rof_any x 6 w hx.1 (by omega) (by decide) (by decide)
theorem rSum (s : ByteArray) (hs : s.size ≤ maxLen) : Det Try.prog 20 [.o (.str s)] [] (vI .u16 (65535 - Sp.sumB s)) [] := det_flat ent_rSum rfl rfl fun w => below_of_eq (rsumOf_any s w hs)
theorem rRight (s : ByteArray) (hs : s.size ≤ maxLen) : Det Try.prog 22 [.o (.str s)] [] (vB (Sp.sumB s == 65535)) [] := det_flat ent_rRight rfl rfl fun w => below_of_eq (rright_any s w hs)
theorem rHead (x y p n : Int) (hx : 0 ≤ x ∧ x ≤ 4294967295) (hy : 0 ≤ y ∧ y ≤ 4294967295) (hp : 0 ≤ p ∧ p ≤ 255) (hn : 0 ≤ n ∧ n ≤ 9223372036854775807) :
    Det Try.prog 26 [.o (.int .u32 x), .o (.int .u32 y), .o (.int .u8 p), .o (.int .i64 n)] [] (vS (Sp.headB x y p n)) [] := by
  have e : IntKind.u64.wrap n = n := by rw [IntKind.wrap_u64]; omega
  have := det_flat (v := vS (Sp.headB x y p (IntKind.u64.wrap n))) ent_rHead (vals := [.o (.int .u32 x), .o (.int .u32 y), .o (.int .u8 p), .o (.int .i64 n)]) rfl rfl fun w => rhead_any x y p n w hx.1 (by omega) hy.1 (by omega) hp.1 (by omega)
  rwa [e] at this
end Go.Proofs.Ytlpeefemffmpmaa.VM
