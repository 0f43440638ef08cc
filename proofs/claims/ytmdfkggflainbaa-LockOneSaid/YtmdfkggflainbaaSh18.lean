/- bits.Mul's contract, laid at this program. -/
import Derived.Test.YtmdfkggflainbaaBase
import Derived.Shelf.Bits.Mul64
namespace Go.Proofs
open Go.RowKit
set_option linter.unusedVariables false
def Try.lays212_ren : Go.Shelf.Ren := ⟨fun | 212 => 73 | 263 => 82 | 264 => 83 | n => n, fun | 46 => 148 | 51 => 84 | 146 => 157 | 53 => 42 | 148 => 159 | n => n, fun | n => n⟩
theorem Try.lays212 : Go.Proofs.Lays.n212 Try.prog Try.lays212_ren := {
  mixed := by kernel_rfl
  f212 := Try.func73.trans (congrArg some (by kernel_rfl))
  f263 := Try.func82.trans (congrArg some (by kernel_rfl))
  f264 := Try.func83.trans (congrArg some (by kernel_rfl))
  t46 := Try.underlying148
  a46 := Try.isAgg148
  z46 := Try.sizeOf148
  v46 := Try.zeroValue148
  t51 := Try.underlying84
  a51 := Try.isAgg84
  z51 := Try.sizeOf84
  v51 := Try.zeroValue84
  t53 := Try.underlying42
  a53 := Try.isAgg42
  z53 := Try.sizeOf42
  v53 := Try.zeroValue42
  t146 := Try.underlying157
  a146 := Try.isAgg157
  z146 := Try.sizeOf157
  v146 := Try.zeroValue157
  t148 := Try.underlying159
  a148 := Try.isAgg159
  z148 := Try.sizeOf159
  v148 := Try.zeroValue159
}
end Go.Proofs
namespace Go.Proofs.Ytmdfkggflainbaa.VM
open Go.RowKit
variable {G : Ground}
theorem ent_mul : Ent Try.prog 73 := ⟨_, Try.func73, by kernel_rfl, by kernel_rfl⟩
theorem mul_det (n : Int) (h : 0 ≤ n ∧ n ≤ 1000000) : Det G Try.prog 73 [.o (.int .u64 1), .o (.int .u64 n)] [] (.t [.o (.int .u64 0), .o (.int .u64 n)]) [] := by
  obtain ⟨k, rfl⟩ := Int.eq_ofNat_of_zero_le h.1
  exact det_flat ent_mul rfl rfl fun w => by
    refine (Any.bits_Mul Try.lays212 1 k (by decide) (by omega) w).mono ?_
    rintro e w' ⟨rfl, rfl⟩
    rw [show 1 * k / 18446744073709551616 = 0 by omega, show 1 * k % 18446744073709551616 = k by omega]
    exact ⟨rfl, Below.refl _ _⟩
end Go.Proofs.Ytmdfkggflainbaa.VM
