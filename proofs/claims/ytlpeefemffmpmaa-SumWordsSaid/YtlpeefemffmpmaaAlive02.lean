/- Contract of law 02's alive. -/
import Derived.Test.YtlpeefemffmpmaaLong
namespace Go.Proofs.Ytlpeefemffmpmaa
open Go.RowKit
set_option linter.unusedVariables false

theorem f1 : (Sp.sumB (joined [⟨#[1, 2]⟩, ⟨#[3, 4]⟩]) == 1030) = true := by decide +kernel
theorem f2 : (65535 - Sp.sumB (joined []) == 65535) = true := by decide +kernel
theorem f3 : (65535 - Sp.sumB (joined [⟨#[255, 255]⟩]) == 0) = true := by decide +kernel
theorem f4 : (Sp.turnV (65535 - Sp.sumB (joined [⟨#[1, 2, 3, 4]⟩])) 772 5 == 65535 - Sp.sumB (joined [⟨#[1, 2, 0, 5]⟩])) = true := by decide +kernel
theorem f5 : (Sp.sumB (joined [⟨#[255]⟩, ⟨#[255]⟩]) == 65535) = true := by decide +kernel
theorem f6 : (Sp.sumB (joined [⟨#[]⟩]) == 65535) = false := by decide +kernel

set_option maxHeartbeats 1000000 in
set_option maxRecDepth 100000 in
theorem alive02_any (w : World) :
    Calls Try.prog 16 #[] w fun e w' => e = .returned (.bool true) ∧ Below w.heap.size w w' := by
  have h1 := f1
  have h2 := f2
  have h3 := f3
  have h4 := f4
  have h5 := f5
  have h6 := f6
  have h7 := Sp.headB_size 1 2 6 (IntKind.u64.wrap 3)
  have HB := Below.refl w.heap.size w
  go_enter Try.func16, Try.ntmps16
  go_wp2_with fail
  refine (Calls.since (HB.alloc HB.size _) (add_any _ 2 [⟨#[1, 2]⟩, ⟨#[3, 4]⟩] _ (strs2 _ _ _ _) (by decide) (by decide +kernel))).mono ?_; clear HB
  rintro e w1 ⟨rfl, HB⟩
  go_wp2_with fail
  refine (Calls.since HB (sumOf_any _ 0 [] _ (.inl rfl) (by decide) (by decide +kernel))).mono ?_; clear HB
  rintro e w2 ⟨rfl, HB⟩
  go_wp2_with fail
  refine (Calls.since (HB.alloc HB.size _) (sumOf_any _ 1 [⟨#[255, 255]⟩] _ (strs1 _ _ _) (by decide) (by decide +kernel))).mono ?_; clear HB
  rintro e w3 ⟨rfl, HB⟩
  go_wp2_with fail
  refine (Calls.since (HB.alloc HB.size _) (sumOf_any _ 1 [⟨#[1, 2, 3, 4]⟩] _ (strs1 _ _ _) (by decide) (by decide +kernel))).mono ?_; clear HB
  rintro e w4 ⟨rfl, HB⟩
  go_wp2_with fail
  refine (turn_any _ 772 5 _ (by decide +kernel) (by decide +kernel) (by decide) (by decide) (by decide) (by decide)).mono ?_
  rintro e w5 ⟨rfl, rfl⟩
  go_wp2_with fail
  refine (Calls.since (HB.alloc HB.size _) (sumOf_any _ 1 [⟨#[1, 2, 0, 5]⟩] _ (strs1 _ _ _) (by decide) (by decide +kernel))).mono ?_; clear HB
  rintro e w6 ⟨rfl, HB⟩
  go_wp2_with fail
  refine (Calls.since (HB.alloc HB.size _) (right_any _ 2 [⟨#[255]⟩, ⟨#[255]⟩] _ (strs2 _ _ _ _) (by decide) (by decide +kernel))).mono ?_; clear HB
  rintro e w7 ⟨rfl, HB⟩
  go_wp2_with fail
  refine (Calls.since (HB.alloc HB.size _) (right_any _ 1 [⟨#[]⟩] _ (strs1 _ _ _) (by decide) (by decide +kernel))).mono ?_; clear HB
  rintro e w8 ⟨rfl, HB⟩
  go_wp2_with fail
  refine (Calls.since HB (head_any 1 2 6 3 _ (by decide) (by decide) (by decide) (by decide) (by decide) (by decide))).mono ?_; clear HB
  rintro e w9 ⟨rfl, HB⟩
  go_wp2_with fail
  go_ret
  exact ⟨rfl, HB⟩
end Go.Proofs.Ytlpeefemffmpmaa
