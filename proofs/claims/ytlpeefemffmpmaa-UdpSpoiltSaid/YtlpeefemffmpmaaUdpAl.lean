/- law 15: alive. -/
import Derived.Test.YtlpeefemffmpmaaUdpA
import Derived.Test.YtlpeefemffmpmaaUdpE
namespace Go.Proofs.Ytlpeefemffmpmaa
open Go.RowKit
set_option linter.unusedVariables false
set_option linter.unusedSimpArgs false
set_option maxHeartbeats 2000000 in
set_option maxRecDepth 100000 in
theorem alive15_any (w : World) :
    Calls Try.prog 28 #[] w fun e w' => e = .returned (.bool true) ∧ Below w.heap.size w w' := by
  obtain ⟨S, hS⟩ : ∃ S, Sp.aS = S := ⟨_, rfl⟩
  have hsz : S.size = 10 := hS ▸ Sp.aS_size
  have hpre : ((S.extract 0 6).toList == [0, 1, 0, 2, 0, 10]) = true := hS ▸ Sp.aS_pre
  have e1 := hid (hS ▸ Sp.a1E)
  have v1 := hid (hS ▸ Sp.a1V)
  have e2 := hid (hS ▸ Sp.a2E)
  have v2 := hid (hS ▸ Sp.a2V)
  have e3 := hid (hS ▸ Sp.a3E)
  have v3 := hid (hS ▸ Sp.a3V)
  have e4 := hid (hS ▸ Sp.a4E)
  have v4 := hid (hS ▸ Sp.a4V)
  have e5 := hid (hS ▸ Sp.a5E)
  have v5 := hid (hS ▸ Sp.a5V)
  have HS := hid hS
  clear hS
  go_enter Try.func28, Try.ntmps28
  go_wp2_with fail
  obtain ⟨W0, hW0⟩ : ∃ W, w.alloc (.cells #[.int .u32 1, .int .u16 1, .int .u32 2, .int .u16 2, .string ⟨#[97, 98]⟩] 46) = W := ⟨_, rfl⟩
  have b0 : w.heap.size < W0.heap.size := by rw [← hW0]; simp only [World.size_alloc]; omega
  have k0 : W0.cell? ⟨w.heap.size, 0, none⟩ = some (.int .u32 1) := by rw [← hW0]; exact cell_new_at _ _ _ _ _ _ (by simp) rfl
  have k1 : W0.cell? ⟨w.heap.size, 1, none⟩ = some (.int .u16 1) := by rw [← hW0]; exact cell_new_at _ _ _ _ _ _ (by simp) rfl
  have k2 : W0.cell? ⟨w.heap.size, 2, none⟩ = some (.int .u32 2) := by rw [← hW0]; exact cell_new_at _ _ _ _ _ _ (by simp) rfl
  have k3 : W0.cell? ⟨w.heap.size, 3, none⟩ = some (.int .u16 2) := by rw [← hW0]; exact cell_new_at _ _ _ _ _ _ (by simp) rfl
  have k4 : W0.cell? ⟨w.heap.size, 4, none⟩ = some (.string ⟨#[97, 98]⟩) := by rw [← hW0]; exact cell_new_at _ _ _ _ _ _ (by simp) rfl
  have HW_W0 := hid (show Below w.heap.size w W0 by rw [← hW0]; exact below_new (Below.refl _ _) _)
  rw [hW0]
  clear hW0
  have HB := Below.refl W0.heap.size W0
  refine (Calls.since HB (udpEncode_ok 1 1 2 2 ⟨#[97, 98]⟩ _ (by decide) (by decide) (by decide) (by decide) (by decide) (by decide) (by decide) (by decide) (by decide))).mono ?_; clear HB
  rw [show Sp.udpB 1 2 1 2 ⟨#[97, 98]⟩ = S from HS.out]
  rintro e w1 ⟨rfl, HB⟩
  go_wp2_with fail
  have hz : (S ++ ⟨#[98, 101, 104, 105, 110, 100]⟩).size ≤ 140737488355000 := by simp only [ByteArray.size_append, ByteArray.size_extract, hsz]; decide
  have D := udpDecode_any 1 2 (S ++ ⟨#[98, 101, 104, 105, 110, 100]⟩) w1 hz (by decide) (by decide) (by decide) (by decide)
  rw [e1.out, v1.out] at D
  refine (Calls.since HB D).mono ?_; clear HB D hz
  rintro e w2 ⟨rfl, HB⟩
  go_wp2_with fail
  obtain ⟨W2, hW2⟩ : ∃ W, w2.alloc (.cells #[.int .u32 1, .int .u16 1, .int .u32 2, .int .u16 2, .string ⟨#[97, 98]⟩] 46) = W := ⟨_, rfl⟩
  have HX : Below W0.heap.size W0 W2 := by rw [← hW2]; exact below_new (HB) _
  have b0' : w.heap.size < W2.heap.size := Nat.lt_of_lt_of_le b0 HX.size
  have k0' := cell_stays HX b0 k0
  have k1' := cell_stays HX b0 k1
  have k2' := cell_stays HX b0 k2
  have k3' := cell_stays HX b0 k3
  have k4' := cell_stays HX b0 k4
  have HW_W2 := hid (HW_W0.out.trans (HX.mono HW_W0.out.size))
  clear HX k0 k1 k2 k3 k4 b0 HW_W0
  have b0 := b0'
  have k0 := k0'
  have k1 := k1'
  have k2 := k2'
  have k3 := k3'
  have k4 := k4'
  clear b0' k0' k1' k2' k3' k4'
  have b1 : w2.heap.size < W2.heap.size := by rw [← hW2]; simp only [World.size_alloc]; omega
  have k5 : W2.cell? ⟨w2.heap.size, 0, none⟩ = some (.int .u32 1) := by rw [← hW2]; exact cell_new_at _ _ _ _ _ _ (by simp) rfl
  have k6 : W2.cell? ⟨w2.heap.size, 1, none⟩ = some (.int .u16 1) := by rw [← hW2]; exact cell_new_at _ _ _ _ _ _ (by simp) rfl
  have k7 : W2.cell? ⟨w2.heap.size, 2, none⟩ = some (.int .u32 2) := by rw [← hW2]; exact cell_new_at _ _ _ _ _ _ (by simp) rfl
  have k8 : W2.cell? ⟨w2.heap.size, 3, none⟩ = some (.int .u16 2) := by rw [← hW2]; exact cell_new_at _ _ _ _ _ _ (by simp) rfl
  have k9 : W2.cell? ⟨w2.heap.size, 4, none⟩ = some (.string ⟨#[97, 98]⟩) := by rw [← hW2]; exact cell_new_at _ _ _ _ _ _ (by simp) rfl
  rw [hW2]
  clear hW2
  have HB := Below.refl W2.heap.size W2
  refine (cut15_at S 6 6 _ rfl (by decide) (by rw [hsz]; decide)).mono ?_
  rintro e w9 ⟨rfl, rfl⟩
  go_wp2_with fail
  have hz : (S.extract 0 6 ++ ⟨#[0, 0, 122, 122]⟩).size ≤ 140737488355000 := by simp only [ByteArray.size_append, ByteArray.size_extract, hsz]; decide
  have D := udpDecode_any 1 2 (S.extract 0 6 ++ ⟨#[0, 0, 122, 122]⟩) W2 hz (by decide) (by decide) (by decide) (by decide)
  rw [e2.out, v2.out] at D
  refine (Calls.since HB D).mono ?_; clear HB D hz
  rintro e w3 ⟨rfl, HB⟩
  go_wp2_with fail
  obtain ⟨W3, hW3⟩ : ∃ W, w3.alloc (.cells #[.int .u32 1, .int .u16 1, .int .u32 2, .int .u16 2, .string ⟨#[122, 122]⟩] 46) = W := ⟨_, rfl⟩
  have HX : Below W2.heap.size W2 W3 := by rw [← hW3]; exact below_new (HB) _
  have b0' : w.heap.size < W3.heap.size := Nat.lt_of_lt_of_le b0 HX.size
  have b1' : w2.heap.size < W3.heap.size := Nat.lt_of_lt_of_le b1 HX.size
  have k0' := cell_stays HX b0 k0
  have k1' := cell_stays HX b0 k1
  have k2' := cell_stays HX b0 k2
  have k3' := cell_stays HX b0 k3
  have k4' := cell_stays HX b0 k4
  have k5' := cell_stays HX b1 k5
  have k6' := cell_stays HX b1 k6
  have k7' := cell_stays HX b1 k7
  have k8' := cell_stays HX b1 k8
  have k9' := cell_stays HX b1 k9
  have HW_W3 := hid (HW_W2.out.trans (HX.mono HW_W2.out.size))
  clear HX k0 k1 k2 k3 k4 k5 k6 k7 k8 k9 b0 b1 HW_W2
  have b0 := b0'
  have b1 := b1'
  have k0 := k0'
  have k1 := k1'
  have k2 := k2'
  have k3 := k3'
  have k4 := k4'
  have k5 := k5'
  have k6 := k6'
  have k7 := k7'
  have k8 := k8'
  have k9 := k9'
  clear b0' b1' k0' k1' k2' k3' k4' k5' k6' k7' k8' k9'
  have b2 : w3.heap.size < W3.heap.size := by rw [← hW3]; simp only [World.size_alloc]; omega
  have k10 : W3.cell? ⟨w3.heap.size, 0, none⟩ = some (.int .u32 1) := by rw [← hW3]; exact cell_new_at _ _ _ _ _ _ (by simp) rfl
  have k11 : W3.cell? ⟨w3.heap.size, 1, none⟩ = some (.int .u16 1) := by rw [← hW3]; exact cell_new_at _ _ _ _ _ _ (by simp) rfl
  have k12 : W3.cell? ⟨w3.heap.size, 2, none⟩ = some (.int .u32 2) := by rw [← hW3]; exact cell_new_at _ _ _ _ _ _ (by simp) rfl
  have k13 : W3.cell? ⟨w3.heap.size, 3, none⟩ = some (.int .u16 2) := by rw [← hW3]; exact cell_new_at _ _ _ _ _ _ (by simp) rfl
  have k14 : W3.cell? ⟨w3.heap.size, 4, none⟩ = some (.string ⟨#[122, 122]⟩) := by rw [← hW3]; exact cell_new_at _ _ _ _ _ _ (by simp) rfl
  rw [hW3]
  clear hW3
  have HB := Below.refl W3.heap.size W3
  have hz : (S).size ≤ 140737488355000 := by simp only [ByteArray.size_append, ByteArray.size_extract, hsz]; decide
  have D := udpDecode_any 1 3 (S) W3 hz (by decide) (by decide) (by decide) (by decide)
  rw [e3.out, v3.out] at D
  refine (Calls.since HB D).mono ?_; clear HB D hz
  rintro e w4 ⟨rfl, HB⟩
  go_wp2_with fail
  refine (cut15_at S 9 9 _ rfl (by decide) (by rw [hsz]; decide)).mono ?_
  rintro e w9 ⟨rfl, rfl⟩
  go_wp2_with fail
  have hz : (S.extract 0 9).size ≤ 140737488355000 := by simp only [ByteArray.size_append, ByteArray.size_extract, hsz]; decide
  have D := udpDecode_any 1 2 (S.extract 0 9) (w4.alloc (.cells #[.int .u32 0, .int .u16 0, .int .u32 0, .int .u16 0, .string ⟨#[]⟩] 46)) hz (by decide) (by decide) (by decide) (by decide)
  rw [e4.out, v4.out] at D
  refine (Calls.since (below_new HB _) D).mono ?_; clear HB D hz
  rintro e w5 ⟨rfl, HB⟩
  go_wp2_with fail
  refine (cut15_at S 4 4 _ rfl (by decide) (by rw [hsz]; decide)).mono ?_
  rintro e w9 ⟨rfl, rfl⟩
  go_wp2_with fail
  refine (behind15_at S 6 6 10 _ rfl hsz (by decide) (by rw [hsz]; decide)).mono ?_
  rintro e w9 ⟨rfl, rfl⟩
  go_wp2_with fail
  have hz : (S.extract 0 4 ++ ⟨#[0, 7]⟩ ++ S.extract 6 10).size ≤ 140737488355000 := by simp only [ByteArray.size_append, ByteArray.size_extract, hsz]; decide
  have D := udpDecode_any 1 2 (S.extract 0 4 ++ ⟨#[0, 7]⟩ ++ S.extract 6 10) (w5.alloc (.cells #[.int .u32 0, .int .u16 0, .int .u32 0, .int .u16 0, .string ⟨#[]⟩] 46)) hz (by decide) (by decide) (by decide) (by decide)
  rw [e5.out, v5.out] at D
  refine (Calls.since (below_new HB _) D).mono ?_; clear HB D hz
  rintro e w6 ⟨rfl, HB⟩
  have k0_w6 := cell_stays HB b0 k0
  have k1_w6 := cell_stays HB b0 k1
  have k2_w6 := cell_stays HB b0 k2
  have k3_w6 := cell_stays HB b0 k3
  have k4_w6 := cell_stays HB b0 k4
  have k5_w6 := cell_stays HB b1 k5
  have k6_w6 := cell_stays HB b1 k6
  have k7_w6 := cell_stays HB b1 k7
  have k8_w6 := cell_stays HB b1 k8
  have k9_w6 := cell_stays HB b1 k9
  have k10_w6 := cell_stays HB b2 k10
  have k11_w6 := cell_stays HB b2 k11
  have k12_w6 := cell_stays HB b2 k12
  have k13_w6 := cell_stays HB b2 k13
  have k14_w6 := cell_stays HB b2 k14
  have b0_w6 : w.heap.size < w6.heap.size := Nat.lt_of_lt_of_le b0 HB.size
  have b1_w6 : w2.heap.size < w6.heap.size := Nat.lt_of_lt_of_le b1 HB.size
  have b2_w6 : w3.heap.size < w6.heap.size := Nat.lt_of_lt_of_le b2 HB.size
  have HE := hid (HW_W3.out.trans (HB.mono HW_W3.out.size))
  go_wp2_with fail
  go_ret
  exact ⟨rfl, by with_reducible repeat (first | exact HE.out | refine Below.drew ?_ | refine below_new ?_ _ | refine below_drewN ?_ _)⟩
end Go.Proofs.Ytlpeefemffmpmaa
