/- stevedoreref15. -/
import Derived.Test.YtlpeefemffmpmaaUdpJ
namespace Go.Proofs.Ytlpeefemffmpmaa
open Go.RowKit
set_option linter.unusedVariables false
namespace Sp
theorem u2_bytes (s : ByteArray) (k : Nat) (h : k + 2 ≤ s.size) : u2 s k = 256 * (s[k]'(by omega)).toNat + (s[k + 1]'(by omega)).toNat := by
  have e : (textS s k 2).data.toList = [s[k]'(by omega), s[k + 1]'(by omega)] := by
    have ht : textOk s k 2 = true := by simp [textOk]; omega
    unfold textS; rw [if_pos ht]
    have e1 : (k : Int).toNat = k := by omega
    have e2 : ((k : Int) + 2).toNat = k + 2 := by omega
    rw [e1, e2]
    apply List.ext_getElem
    · simp; omega
    · intro i h1 h2
      simp at h2
      have : i = 0 ∨ i = 1 := by omega
      rcases this with rfl | rfl <;> simp [ByteArray.getElem_eq_getElem_data]
  unfold u2; rw [e]
  have a1 := (s[k]'(by omega)).toNat_lt
  have a2 := (s[k + 1]'(by omega)).toNat_lt
  simp only [num, be, List.foldl]
  omega
end Sp
theorem num2_any (s : ByteArray) (k : Nat) (w : World) (h : k + 2 ≤ s.size) (hs : s.size ≤ 140737488355328) :
    Calls Try.prog 56 #[.string s, .int .i64 k, .int .i64 2] w fun e w' => e = .returned (.tuple #[.int .u64 (Sp.u2 s k), .int .i64 0]) ∧ Below w.heap.size w w' := by
  rw [Sp.u2_bytes s k h]
  have a1 := (s[k]'(by omega)).toNat_lt
  have a2 := (s[k + 1]'(by omega)).toNat_lt
  go_enter Try.func56, Try.ntmps56
  go_wp2_with fail
  have e0 : IntKind.i64.wrap ((k : Int) + 0) = k := by rw [Int.add_zero]; exact by unfold IntKind.wrap; simp [IntKind.signed, IntKind.bits]; omega
  have e1 : IntKind.i64.wrap ((k : Int) + 1) = (k : Int) + 1 := by unfold IntKind.wrap; simp [IntKind.signed, IntKind.bits]; omega
  have e2 : ((k : Int) + 1).toNat = k + 1 := by omega
  have e3 : (0 : Int) ≤ (k : Int) + 1 := by omega
  have u1 : IntKind.u64.wrap (256 * ((s[k]'(by omega)).toNat : Int)) = 256 * ((s[k]'(by omega)).toNat : Int) := Sp.u64_wrap_in _ (by omega) (by omega)
  have u2 : IntKind.u64.wrap (256 * ((s[k]'(by omega)).toNat : Int) + ((s[k + 1]'(by omega)).toNat : Int)) = 256 * ((s[k]'(by omega)).toNat : Int) + ((s[k + 1]'(by omega)).toNat : Int) := Sp.u64_wrap_in _ (by omega) (by omega)
  have e4 : k < s.size := by omega
  have e5 : k + 1 < s.size := by omega
  refine wp_loop_rounds 3 ?_
  rw [rounds_succ]
  go_wp2_with fail
  rw [rounds_succ]
  go_wp2_with fail
  rw [rounds_succ]
  go_wp2_with fail
  go_ret2
  exact ⟨rfl, Below.refl _ _⟩
end Go.Proofs.Ytlpeefemffmpmaa
