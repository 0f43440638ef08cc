/- Walk of law SumTells. -/
import Derived.Test.YtlpeefemffmpmaaAlive02
import Derived.Test.YtlpeefemffmpmaaSumP
namespace Go.Proofs.Ytlpeefemffmpmaa
open Go.RowKit
set_option linter.unusedVariables false

set_option maxHeartbeats 1000000 in
set_option maxRecDepth 100000 in
theorem sumTells_law (sa : Option Addr) (cp : Nat) (xs : List ByteArray) (c a b x y p n : Int) (w : World) (hS : Strs w sa cp xs ∧ xs.length ≤ maxLen ∧ ∀ x ∈ xs, x.size ≤ maxLen) (hc : 0 ≤ c ∧ c ≤ 65535) (ha : 0 ≤ a ∧ a ≤ 65535) (hb : 0 ≤ b ∧ b ≤ 65535)
    (hx : 0 ≤ x ∧ x ≤ 4294967295) (hy : 0 ≤ y ∧ y ≤ 4294967295) (hp : 0 ≤ p ∧ p ≤ 255) (hn : -9223372036854775808 ≤ n ∧ n ≤ 9223372036854775807) :
    Calls Try.prog 3 #[.slice sa xs.length cp, .int .u16 c, .int .u16 a, .int .u16 b, .int .u32 x, .int .u32 y, .int .u8 p, .int .i64 n] w fun e w' => e = .returned (.bool true) ∧ Below w.heap.size w w' := by
  obtain ⟨hS, hN, hZ⟩ := hS
  obtain ⟨hc1, hc2⟩ := hc
  obtain ⟨ha1, ha2⟩ := ha
  obtain ⟨hb1, hb2⟩ := hb
  have HZ := hid hZ
  clear hZ
  go_enter Try.func3, Try.ntmps3
  go_wp2_with fail
  refine (long_any sa cp xs w hS hN HZ.out).mono ?_
  rintro e w1 ⟨s, long, rfl, rfl, hl⟩
  cases long with
  | true =>
    clear hl
    go_wp2_with fail
    refine (alive02_any w).mono ?_
    rintro e w1 ⟨rfl, HB⟩
    go_wp2_with fail
    go_ret
    exact ⟨rfl, HB⟩
  | false =>
    obtain ⟨rfl, hn100, hz⟩ := hl rfl
    clear hl
    have hN2 : xs.length ≤ 140737488355328 := by omega
    have hz2 : (joined xs).size ≤ 140737488355328 := by omega
    have hz3 : (joined xs).size ≤ maxLen := by unfold maxLen; omega
    clear hn100 hN
    have HR := hid (Sp.rturn_eq c a b hc1 hc2 ha1 ha2 hb1 hb2)
    have HB := Below.refl w.heap.size w
    go_wp2_with fail
    refine (Calls.since HB (add_any sa cp xs _ (hS.below HB) hN2 hz2)).mono ?_; clear HB
    rintro e w1 ⟨rfl, HB⟩
    go_wp2_with fail
    refine (radd_any _ _ hz3).mono ?_
    rintro e w2 ⟨rfl, rfl⟩
    go_wp2_with fail
    refine (Calls.since HB (sumOf_any sa cp xs _ (hS.below HB) hN2 hz2)).mono ?_; clear HB
    rintro e w1 ⟨rfl, HB⟩
    go_wp2_with fail
    refine (rsumOf_any _ _ hz3).mono ?_
    rintro e w2 ⟨rfl, rfl⟩
    go_wp2_with fail
    refine (Calls.since HB (right_any sa cp xs _ (hS.below HB) hN2 hz2)).mono ?_; clear HB
    rintro e w1 ⟨rfl, HB⟩
    go_wp2_with fail
    refine (rright_any _ _ hz3).mono ?_
    rintro e w2 ⟨rfl, rfl⟩
    go_wp2_with fail
    refine (turn_any c a b _ hc1 hc2 ha1 ha2 hb1 hb2).mono ?_
    rintro e w2 ⟨rfl, rfl⟩
    go_wp2_with fail
    refine (Calls.since HB (rturn_any c a b _ hc1 hc2 ha1 ha2 hb1 hb2)).mono ?_; clear HB
    rw [HR.out]
    rintro e w1 ⟨rfl, HB⟩
    go_wp2_with fail
    refine (Calls.since HB (head_any x y p n _ hx.1 (by omega) hy.1 (by omega) hp.1 (by omega))).mono ?_; clear HB
    rintro e w1 ⟨rfl, HB⟩
    go_wp2_with fail
    refine (Calls.since HB (rhead_any x y p n _ hx.1 (by omega) hy.1 (by omega) hp.1 (by omega))).mono ?_; clear HB
    rintro e w1 ⟨rfl, HB⟩
    go_wp2_with fail
    refine (Calls.since HB (alive02_any _)).mono ?_; clear HB
    rintro e w1 ⟨rfl, HB⟩
    go_wp2_with fail
    go_ret
    exact ⟨rfl, HB⟩
end Go.Proofs.Ytlpeefemffmpmaa
