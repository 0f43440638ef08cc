/- Law 7: the arithmetic of the document's reading. -/
import Derived.Test.YtnikpanebkknfaaDoorV07f
import Derived.Test.YtnikpanebkknfaaDoorP07s
namespace Go.Proofs.YtnikpanebkknfaaDoor.VM
namespace G4
open Go.RowKit
set_option linter.unusedVariables false
theorem Arith.or16 {a b : Int} {K : Int → Prop} (ha : 0 ≤ a ∧ a ≤ 281474976710655) (hb : 0 ≤ b ∧ b ≤ 15) (g : K (a * 16 + b)) : Arith .u64 ((BitVec.ofInt IntKind.u64.bits (a * 16) ||| BitVec.ofInt IntKind.u64.bits b).toNat : Int) K := by
  have e : ((BitVec.ofInt IntKind.u64.bits (a * 16) ||| BitVec.ofInt IntKind.u64.bits b).toNat : Int) = a * 16 + b := by
    rw [bor_nat _ _ _ (by omega) (show _ < (18446744073709551616 : Int) by omega) hb.1 (show _ < (18446744073709551616 : Int) by omega)]
    obtain ⟨m, rfl⟩ := Int.eq_ofNat_of_zero_le ha.1
    obtain ⟨n, rfl⟩ := Int.eq_ofNat_of_zero_le hb.1
    have := or_disj' m n 4 (by omega)
    rw [show (((m : Int) * 16).toNat) = 2 ^ 4 * m by omega, Int.toNat_natCast, this]; omega
  rw [e]; exact .u64 (by omega) g
theorem Arith.m48 {a : Int} {K : Int → Prop} (h : 0 ≤ a ∧ a ≤ 18446744073709551615) (g : K (a % 281474976710656)) : Arith .u64 ((BitVec.ofInt IntKind.u64.bits a &&& BitVec.ofInt IntKind.u64.bits 281474976710655).toNat : Int) K := by
  have e := band_mask IntKind.u64.bits 48 a 281474976710655 h.1 (show a < (18446744073709551616 : Int) by omega) (by decide) (by decide)
  rw [e]; exact .u64 (by omega) g
theorem Arith.sl4 {a : Int} {K : Int → Prop} (h : 0 ≤ a ∧ a ≤ 281474976710655) (g : K (a * 16)) : Arith .u64 (a * 2 ^ min (Int.toNat 4) IntKind.u64.bits) K := by
  rw [shl_u64_4]; exact .u64 (by omega) g
end G4
end Go.Proofs.YtnikpanebkknfaaDoor.VM
