/- stevedoreref15.Decode. -/
import Derived.Test.YtlpeefemffmpmaaUdpF
namespace Go.Proofs.Ytlpeefemffmpmaa
open Go.RowKit
set_option linter.unusedVariables false
theorem rn0 (s : ByteArray) (w : World) (h : 2 ≤ s.size) (hs : s.size ≤ 140737488355328) : Calls Try.prog 56 #[.string s, .int .i64 0, .int .i64 2] w fun e w' => e = .returned (.tuple #[.int .u64 (Sp.u2 s 0), .int .i64 0]) ∧ Below w.heap.size w w' := num2_any s 0 w (by omega) hs
theorem rn2 (s : ByteArray) (w : World) (h : 4 ≤ s.size) (hs : s.size ≤ 140737488355328) : Calls Try.prog 56 #[.string s, .int .i64 2, .int .i64 2] w fun e w' => e = .returned (.tuple #[.int .u64 (Sp.u2 s 2), .int .i64 0]) ∧ Below w.heap.size w w' := num2_any s 2 w (by omega) hs
theorem rn4 (s : ByteArray) (w : World) (h : 6 ≤ s.size) (hs : s.size ≤ 140737488355328) : Calls Try.prog 56 #[.string s, .int .i64 4, .int .i64 2] w fun e w' => e = .returned (.tuple #[.int .u64 (Sp.u2 s 4), .int .i64 0]) ∧ Below w.heap.size w w' := num2_any s 4 w (by omega) hs

set_option maxHeartbeats 1000000 in
set_option maxRecDepth 100000 in
theorem rudpDecode_1 (x y p q n : Int) (s : ByteArray) (w : World) (hs : s.size ≤ 140737488355000) (hx : 0 ≤ x) (hx2 : x < 4294967296) (hy : 0 ≤ y) (hy2 : y < 4294967296) (hp : Sp.u2 s 0 = p) (hq : Sp.u2 s 2 = q) (hn : Sp.u2 s 4 = n) (hp0 : 0 ≤ p) (hp1 : p ≤ 65535) (hq0 : 0 ≤ q) (hq1 : q ≤ 65535) (hn0 : 0 ≤ n) (hn1 : n ≤ 65535) (z : Bool) (hz : ((s.extract 6 8).toList == [0, 0]) = z) (h1 : (s.size : Int) < 8) :
    Calls Try.prog 32 #[.int .u32 x, .int .u32 y, .string s] w fun e w' => e = .returned (.tuple #[dg 0 0 0 0 ⟨#[]⟩, .int .i64 10]) ∧ Below w.heap.size w w' := by
  have HP := hid hp
  have HQ := hid hq
  have HN := hid hn
  have HB := Below.refl w.heap.size w
  clear hp hq hn
  have in1 : IntKind.i64.wrap n = n := IntWalk.i64_in _ (by omega)
  have ip1 : IntKind.u16.wrap p = p := IntWalk.u16_in _ (by omega)
  have iq1 : IntKind.u16.wrap q = q := IntWalk.u16_in _ (by omega)
  go_enter Try.func32, Try.ntmps32
  go_wp2_with fail
  refine bodyPost_ret (v := .tuple #[dg 0 0 0 0 ⟨#[]⟩, .int .i64 10]) ?_ rfl ⟨rfl, below_new (below_new HB _) _⟩
  exact res_dg rfl _ _ _ _ _ _ _ _ _ rfl rfl (cell_alloc_l _ (cell_new_at _ _ _ _ _ _ rfl rfl)) (cell_alloc_l _ (cell_new_at _ _ _ _ _ _ rfl rfl)) (cell_alloc_l _ (cell_new_at _ _ _ _ _ _ rfl rfl)) (cell_alloc_l _ (cell_new_at _ _ _ _ _ _ rfl rfl)) (cell_alloc_l _ (cell_new_at _ _ _ _ _ _ rfl rfl))

set_option maxHeartbeats 1000000 in
set_option maxRecDepth 100000 in
theorem rudpDecode_2 (x y p q n : Int) (s : ByteArray) (w : World) (hs : s.size ≤ 140737488355000) (hx : 0 ≤ x) (hx2 : x < 4294967296) (hy : 0 ≤ y) (hy2 : y < 4294967296) (hp : Sp.u2 s 0 = p) (hq : Sp.u2 s 2 = q) (hn : Sp.u2 s 4 = n) (hp0 : 0 ≤ p) (hp1 : p ≤ 65535) (hq0 : 0 ≤ q) (hq1 : q ≤ 65535) (hn0 : 0 ≤ n) (hn1 : n ≤ 65535) (z : Bool) (hz : ((s.extract 6 8).toList == [0, 0]) = z) (h1 : (8 : Int) ≤ s.size) (h2 : n < 8) :
    Calls Try.prog 32 #[.int .u32 x, .int .u32 y, .string s] w fun e w' => e = .returned (.tuple #[dg 0 0 0 0 ⟨#[]⟩, .int .i64 8]) ∧ Below w.heap.size w w' := by
  have HP := hid hp
  have HQ := hid hq
  have HN := hid hn
  clear hp hq hn
  have in1 : IntKind.i64.wrap n = n := IntWalk.i64_in _ (by omega)
  have ip1 : IntKind.u16.wrap p = p := IntWalk.u16_in _ (by omega)
  have iq1 : IntKind.u16.wrap q = q := IntWalk.u16_in _ (by omega)
  go_enter Try.func32, Try.ntmps32
  go_wp2_with fail
  obtain ⟨W0, hW0⟩ : ∃ W, (w.alloc (.cells #[.int .u32 0, .int .u16 0, .int .u32 0, .int .u16 0, .string ⟨#[]⟩] 46)).alloc (.cells #[.int .u32 0, .int .u16 0, .int .u32 0, .int .u16 0, .string ⟨#[]⟩] 46) = W := ⟨_, rfl⟩
  have b0 : w.heap.size < W0.heap.size := by rw [← hW0]; simp only [World.size_alloc]; omega
  have k0 : W0.cell? ⟨w.heap.size, 0, none⟩ = some (.int .u32 0) := by rw [← hW0]; exact cell_alloc_l _ (cell_new_at _ _ _ _ _ _ (by simp) rfl)
  have k1 : W0.cell? ⟨w.heap.size, 1, none⟩ = some (.int .u16 0) := by rw [← hW0]; exact cell_alloc_l _ (cell_new_at _ _ _ _ _ _ (by simp) rfl)
  have k2 : W0.cell? ⟨w.heap.size, 2, none⟩ = some (.int .u32 0) := by rw [← hW0]; exact cell_alloc_l _ (cell_new_at _ _ _ _ _ _ (by simp) rfl)
  have k3 : W0.cell? ⟨w.heap.size, 3, none⟩ = some (.int .u16 0) := by rw [← hW0]; exact cell_alloc_l _ (cell_new_at _ _ _ _ _ _ (by simp) rfl)
  have k4 : W0.cell? ⟨w.heap.size, 4, none⟩ = some (.string ⟨#[]⟩) := by rw [← hW0]; exact cell_alloc_l _ (cell_new_at _ _ _ _ _ _ (by simp) rfl)
  have fz0 : W0.frozen? ⟨w.heap.size, 0, none⟩ = false := by rw [← hW0]; exact frozen_up _ (by simp only [World.size_alloc]; omega) (frozen_new_at _ _ _ _ _ rfl)
  have fz1 : W0.frozen? ⟨w.heap.size, 1, none⟩ = false := by rw [← hW0]; exact frozen_up _ (by simp only [World.size_alloc]; omega) (frozen_new_at _ _ _ _ _ rfl)
  have fz2 : W0.frozen? ⟨w.heap.size, 2, none⟩ = false := by rw [← hW0]; exact frozen_up _ (by simp only [World.size_alloc]; omega) (frozen_new_at _ _ _ _ _ rfl)
  have fz3 : W0.frozen? ⟨w.heap.size, 3, none⟩ = false := by rw [← hW0]; exact frozen_up _ (by simp only [World.size_alloc]; omega) (frozen_new_at _ _ _ _ _ rfl)
  have fz4 : W0.frozen? ⟨w.heap.size, 4, none⟩ = false := by rw [← hW0]; exact frozen_up _ (by simp only [World.size_alloc]; omega) (frozen_new_at _ _ _ _ _ rfl)
  have b1 : w.heap.size + 1 < W0.heap.size := by rw [← hW0]; simp only [World.size_alloc]; omega
  have k5 : W0.cell? ⟨w.heap.size + 1, 0, none⟩ = some (.int .u32 0) := by rw [← hW0]; exact cell_new_at _ _ _ _ _ _ (by simp) rfl
  have k6 : W0.cell? ⟨w.heap.size + 1, 1, none⟩ = some (.int .u16 0) := by rw [← hW0]; exact cell_new_at _ _ _ _ _ _ (by simp) rfl
  have k7 : W0.cell? ⟨w.heap.size + 1, 2, none⟩ = some (.int .u32 0) := by rw [← hW0]; exact cell_new_at _ _ _ _ _ _ (by simp) rfl
  have k8 : W0.cell? ⟨w.heap.size + 1, 3, none⟩ = some (.int .u16 0) := by rw [← hW0]; exact cell_new_at _ _ _ _ _ _ (by simp) rfl
  have k9 : W0.cell? ⟨w.heap.size + 1, 4, none⟩ = some (.string ⟨#[]⟩) := by rw [← hW0]; exact cell_new_at _ _ _ _ _ _ (by simp) rfl
  have HW_W0 := hid (show Below w.heap.size w W0 by rw [← hW0]; exact below_new (below_new (Below.refl _ _) _) _)
  rw [hW0]
  clear hW0
  have HB := Below.refl W0.heap.size W0
  refine (Calls.since HB (rn4 s _ (by omega) (by omega))).mono ?_; clear HB
  rw [HN.out]
  rintro e w1 ⟨rfl, HB⟩
  obtain ⟨W1, hW1⟩ : ∃ W, w1 = W := ⟨_, rfl⟩
  have HX : Below W0.heap.size W0 W1 := by rw [← hW1]; exact HB
  have b0' : w.heap.size < W1.heap.size := Nat.lt_of_lt_of_le b0 HX.size
  have b1' : w.heap.size + 1 < W1.heap.size := Nat.lt_of_lt_of_le b1 HX.size
  have k0' := cell_stays HX b0 k0
  have k1' := cell_stays HX b0 k1
  have k2' := cell_stays HX b0 k2
  have k3' := cell_stays HX b0 k3
  have k4' := cell_stays HX b0 k4
  have k5' := cell_stays HX b1 k5
  have k6' := cell_stays HX b1 k6
  have k7' := cell_stays HX b1 k7
  have k8' := cell_stays HX b1 k8
  have k9' := cell_stays HX b1 k9
  have fz0' := frozen_stays HX b0 fz0
  have fz1' := frozen_stays HX b0 fz1
  have fz2' := frozen_stays HX b0 fz2
  have fz3' := frozen_stays HX b0 fz3
  have fz4' := frozen_stays HX b0 fz4
  have HW_W1 := hid (HW_W0.out.trans (HX.mono HW_W0.out.size))
  clear HX k0 k1 k2 k3 k4 k5 k6 k7 k8 k9 fz0 fz1 fz2 fz3 fz4 b0 b1 HW_W0
  have b0 := b0'
  have b1 := b1'
  have k0 := k0'
  have k1 := k1'
  have k2 := k2'
  have k3 := k3'
  have k4 := k4'
  have k5 := k5'
  have k6 := k6'
  have k7 := k7'
  have k8 := k8'
  have k9 := k9'
  have fz0 := fz0'
  have fz1 := fz1'
  have fz2 := fz2'
  have fz3 := fz3'
  have fz4 := fz4'
  clear fz0' fz1' fz2' fz3' fz4'
  clear b0' b1' k0' k1' k2' k3' k4' k5' k6' k7' k8' k9'
  rw [hW1]
  clear hW1
  have HB := Below.refl W1.heap.size W1
  go_wp2_with fail
  obtain ⟨r0, r1, r2, r3, r4⟩ := set5 (v0 := .int .u32 0) (v1 := .int .u16 0) (v2 := .int .u32 0) (v3 := .int .u16 0) (v4 := .string ⟨#[]⟩) k0 k1 k2 k3 k4
  refine bodyPost_ret (v := .tuple #[dg 0 0 0 0 ⟨#[]⟩, .int .i64 8]) ?_ rfl ⟨rfl, ?_⟩
  · exact res_dg rfl _ _ _ _ _ _ _ _ _ rfl rfl r0 r1 r2 r3 r4
  · with_reducible repeat (first | exact HW_W1.out | refine Below.drew ?_ | refine below_new ?_ _ | refine below_drewN ?_ _ | refine below_set ?_ (by omega))

set_option maxHeartbeats 1000000 in
set_option maxRecDepth 100000 in
theorem rudpDecode_3 (x y p q n : Int) (s : ByteArray) (w : World) (hs : s.size ≤ 140737488355000) (hx : 0 ≤ x) (hx2 : x < 4294967296) (hy : 0 ≤ y) (hy2 : y < 4294967296) (hp : Sp.u2 s 0 = p) (hq : Sp.u2 s 2 = q) (hn : Sp.u2 s 4 = n) (hp0 : 0 ≤ p) (hp1 : p ≤ 65535) (hq0 : 0 ≤ q) (hq1 : q ≤ 65535) (hn0 : 0 ≤ n) (hn1 : n ≤ 65535) (z : Bool) (hz : ((s.extract 6 8).toList == [0, 0]) = z) (h1 : (8 : Int) ≤ s.size) (h2 : 8 ≤ n) (h3 : (s.size : Int) < n) :
    Calls Try.prog 32 #[.int .u32 x, .int .u32 y, .string s] w fun e w' => e = .returned (.tuple #[dg 0 0 0 0 ⟨#[]⟩, .int .i64 10]) ∧ Below w.heap.size w w' := by
  have HP := hid hp
  have HQ := hid hq
  have HN := hid hn
  clear hp hq hn
  have in1 : IntKind.i64.wrap n = n := IntWalk.i64_in _ (by omega)
  have ip1 : IntKind.u16.wrap p = p := IntWalk.u16_in _ (by omega)
  have iq1 : IntKind.u16.wrap q = q := IntWalk.u16_in _ (by omega)
  go_enter Try.func32, Try.ntmps32
  go_wp2_with fail
  obtain ⟨W0, hW0⟩ : ∃ W, (w.alloc (.cells #[.int .u32 0, .int .u16 0, .int .u32 0, .int .u16 0, .string ⟨#[]⟩] 46)).alloc (.cells #[.int .u32 0, .int .u16 0, .int .u32 0, .int .u16 0, .string ⟨#[]⟩] 46) = W := ⟨_, rfl⟩
  have b0 : w.heap.size < W0.heap.size := by rw [← hW0]; simp only [World.size_alloc]; omega
  have k0 : W0.cell? ⟨w.heap.size, 0, none⟩ = some (.int .u32 0) := by rw [← hW0]; exact cell_alloc_l _ (cell_new_at _ _ _ _ _ _ (by simp) rfl)
  have k1 : W0.cell? ⟨w.heap.size, 1, none⟩ = some (.int .u16 0) := by rw [← hW0]; exact cell_alloc_l _ (cell_new_at _ _ _ _ _ _ (by simp) rfl)
  have k2 : W0.cell? ⟨w.heap.size, 2, none⟩ = some (.int .u32 0) := by rw [← hW0]; exact cell_alloc_l _ (cell_new_at _ _ _ _ _ _ (by simp) rfl)
  have k3 : W0.cell? ⟨w.heap.size, 3, none⟩ = some (.int .u16 0) := by rw [← hW0]; exact cell_alloc_l _ (cell_new_at _ _ _ _ _ _ (by simp) rfl)
  have k4 : W0.cell? ⟨w.heap.size, 4, none⟩ = some (.string ⟨#[]⟩) := by rw [← hW0]; exact cell_alloc_l _ (cell_new_at _ _ _ _ _ _ (by simp) rfl)
  have fz0 : W0.frozen? ⟨w.heap.size, 0, none⟩ = false := by rw [← hW0]; exact frozen_up _ (by simp only [World.size_alloc]; omega) (frozen_new_at _ _ _ _ _ rfl)
  have fz1 : W0.frozen? ⟨w.heap.size, 1, none⟩ = false := by rw [← hW0]; exact frozen_up _ (by simp only [World.size_alloc]; omega) (frozen_new_at _ _ _ _ _ rfl)
  have fz2 : W0.frozen? ⟨w.heap.size, 2, none⟩ = false := by rw [← hW0]; exact frozen_up _ (by simp only [World.size_alloc]; omega) (frozen_new_at _ _ _ _ _ rfl)
  have fz3 : W0.frozen? ⟨w.heap.size, 3, none⟩ = false := by rw [← hW0]; exact frozen_up _ (by simp only [World.size_alloc]; omega) (frozen_new_at _ _ _ _ _ rfl)
  have fz4 : W0.frozen? ⟨w.heap.size, 4, none⟩ = false := by rw [← hW0]; exact frozen_up _ (by simp only [World.size_alloc]; omega) (frozen_new_at _ _ _ _ _ rfl)
  have b1 : w.heap.size + 1 < W0.heap.size := by rw [← hW0]; simp only [World.size_alloc]; omega
  have k5 : W0.cell? ⟨w.heap.size + 1, 0, none⟩ = some (.int .u32 0) := by rw [← hW0]; exact cell_new_at _ _ _ _ _ _ (by simp) rfl
  have k6 : W0.cell? ⟨w.heap.size + 1, 1, none⟩ = some (.int .u16 0) := by rw [← hW0]; exact cell_new_at _ _ _ _ _ _ (by simp) rfl
  have k7 : W0.cell? ⟨w.heap.size + 1, 2, none⟩ = some (.int .u32 0) := by rw [← hW0]; exact cell_new_at _ _ _ _ _ _ (by simp) rfl
  have k8 : W0.cell? ⟨w.heap.size + 1, 3, none⟩ = some (.int .u16 0) := by rw [← hW0]; exact cell_new_at _ _ _ _ _ _ (by simp) rfl
  have k9 : W0.cell? ⟨w.heap.size + 1, 4, none⟩ = some (.string ⟨#[]⟩) := by rw [← hW0]; exact cell_new_at _ _ _ _ _ _ (by simp) rfl
  have HW_W0 := hid (show Below w.heap.size w W0 by rw [← hW0]; exact below_new (below_new (Below.refl _ _) _) _)
  rw [hW0]
  clear hW0
  have HB := Below.refl W0.heap.size W0
  refine (Calls.since HB (rn4 s _ (by omega) (by omega))).mono ?_; clear HB
  rw [HN.out]
  rintro e w1 ⟨rfl, HB⟩
  obtain ⟨W1, hW1⟩ : ∃ W, w1 = W := ⟨_, rfl⟩
  have HX : Below W0.heap.size W0 W1 := by rw [← hW1]; exact HB
  have b0' : w.heap.size < W1.heap.size := Nat.lt_of_lt_of_le b0 HX.size
  have b1' : w.heap.size + 1 < W1.heap.size := Nat.lt_of_lt_of_le b1 HX.size
  have k0' := cell_stays HX b0 k0
  have k1' := cell_stays HX b0 k1
  have k2' := cell_stays HX b0 k2
  have k3' := cell_stays HX b0 k3
  have k4' := cell_stays HX b0 k4
  have k5' := cell_stays HX b1 k5
  have k6' := cell_stays HX b1 k6
  have k7' := cell_stays HX b1 k7
  have k8' := cell_stays HX b1 k8
  have k9' := cell_stays HX b1 k9
  have fz0' := frozen_stays HX b0 fz0
  have fz1' := frozen_stays HX b0 fz1
  have fz2' := frozen_stays HX b0 fz2
  have fz3' := frozen_stays HX b0 fz3
  have fz4' := frozen_stays HX b0 fz4
  have HW_W1 := hid (HW_W0.out.trans (HX.mono HW_W0.out.size))
  clear HX k0 k1 k2 k3 k4 k5 k6 k7 k8 k9 fz0 fz1 fz2 fz3 fz4 b0 b1 HW_W0
  have b0 := b0'
  have b1 := b1'
  have k0 := k0'
  have k1 := k1'
  have k2 := k2'
  have k3 := k3'
  have k4 := k4'
  have k5 := k5'
  have k6 := k6'
  have k7 := k7'
  have k8 := k8'
  have k9 := k9'
  have fz0 := fz0'
  have fz1 := fz1'
  have fz2 := fz2'
  have fz3 := fz3'
  have fz4 := fz4'
  clear fz0' fz1' fz2' fz3' fz4'
  clear b0' b1' k0' k1' k2' k3' k4' k5' k6' k7' k8' k9'
  rw [hW1]
  clear hW1
  have HB := Below.refl W1.heap.size W1
  go_wp2_with fail
  obtain ⟨r0, r1, r2, r3, r4⟩ := set5 (v0 := .int .u32 0) (v1 := .int .u16 0) (v2 := .int .u32 0) (v3 := .int .u16 0) (v4 := .string ⟨#[]⟩) k0 k1 k2 k3 k4
  refine bodyPost_ret (v := .tuple #[dg 0 0 0 0 ⟨#[]⟩, .int .i64 10]) ?_ rfl ⟨rfl, ?_⟩
  · exact res_dg rfl _ _ _ _ _ _ _ _ _ rfl rfl r0 r1 r2 r3 r4
  · with_reducible repeat (first | exact HW_W1.out | refine Below.drew ?_ | refine below_new ?_ _ | refine below_drewN ?_ _ | refine below_set ?_ (by omega))

set_option maxHeartbeats 1000000 in
set_option maxRecDepth 100000 in
theorem rudpDecode_4 (x y p q n : Int) (s : ByteArray) (w : World) (hs : s.size ≤ 140737488355000) (hx : 0 ≤ x) (hx2 : x < 4294967296) (hy : 0 ≤ y) (hy2 : y < 4294967296) (hp : Sp.u2 s 0 = p) (hq : Sp.u2 s 2 = q) (hn : Sp.u2 s 4 = n) (hp0 : 0 ≤ p) (hp1 : p ≤ 65535) (hq0 : 0 ≤ q) (hq1 : q ≤ 65535) (hn0 : 0 ≤ n) (hn1 : n ≤ 65535) (z : Bool) (hz : ((s.extract 6 8).toList == [0, 0]) = z) (h1 : (8 : Int) ≤ s.size) (h2 : 8 ≤ n) (h3 : n ≤ s.size) (h4 : 65515 < n) :
    Calls Try.prog 32 #[.int .u32 x, .int .u32 y, .string s] w fun e w' => e = .returned (.tuple #[dg 0 0 0 0 ⟨#[]⟩, .int .i64 4]) ∧ Below w.heap.size w w' := by
  have HP := hid hp
  have HQ := hid hq
  have HN := hid hn
  clear hp hq hn
  have in1 : IntKind.i64.wrap n = n := IntWalk.i64_in _ (by omega)
  have ip1 : IntKind.u16.wrap p = p := IntWalk.u16_in _ (by omega)
  have iq1 : IntKind.u16.wrap q = q := IntWalk.u16_in _ (by omega)
  go_enter Try.func32, Try.ntmps32
  go_wp2_with fail
  obtain ⟨W0, hW0⟩ : ∃ W, (w.alloc (.cells #[.int .u32 0, .int .u16 0, .int .u32 0, .int .u16 0, .string ⟨#[]⟩] 46)).alloc (.cells #[.int .u32 0, .int .u16 0, .int .u32 0, .int .u16 0, .string ⟨#[]⟩] 46) = W := ⟨_, rfl⟩
  have b0 : w.heap.size < W0.heap.size := by rw [← hW0]; simp only [World.size_alloc]; omega
  have k0 : W0.cell? ⟨w.heap.size, 0, none⟩ = some (.int .u32 0) := by rw [← hW0]; exact cell_alloc_l _ (cell_new_at _ _ _ _ _ _ (by simp) rfl)
  have k1 : W0.cell? ⟨w.heap.size, 1, none⟩ = some (.int .u16 0) := by rw [← hW0]; exact cell_alloc_l _ (cell_new_at _ _ _ _ _ _ (by simp) rfl)
  have k2 : W0.cell? ⟨w.heap.size, 2, none⟩ = some (.int .u32 0) := by rw [← hW0]; exact cell_alloc_l _ (cell_new_at _ _ _ _ _ _ (by simp) rfl)
  have k3 : W0.cell? ⟨w.heap.size, 3, none⟩ = some (.int .u16 0) := by rw [← hW0]; exact cell_alloc_l _ (cell_new_at _ _ _ _ _ _ (by simp) rfl)
  have k4 : W0.cell? ⟨w.heap.size, 4, none⟩ = some (.string ⟨#[]⟩) := by rw [← hW0]; exact cell_alloc_l _ (cell_new_at _ _ _ _ _ _ (by simp) rfl)
  have fz0 : W0.frozen? ⟨w.heap.size, 0, none⟩ = false := by rw [← hW0]; exact frozen_up _ (by simp only [World.size_alloc]; omega) (frozen_new_at _ _ _ _ _ rfl)
  have fz1 : W0.frozen? ⟨w.heap.size, 1, none⟩ = false := by rw [← hW0]; exact frozen_up _ (by simp only [World.size_alloc]; omega) (frozen_new_at _ _ _ _ _ rfl)
  have fz2 : W0.frozen? ⟨w.heap.size, 2, none⟩ = false := by rw [← hW0]; exact frozen_up _ (by simp only [World.size_alloc]; omega) (frozen_new_at _ _ _ _ _ rfl)
  have fz3 : W0.frozen? ⟨w.heap.size, 3, none⟩ = false := by rw [← hW0]; exact frozen_up _ (by simp only [World.size_alloc]; omega) (frozen_new_at _ _ _ _ _ rfl)
  have fz4 : W0.frozen? ⟨w.heap.size, 4, none⟩ = false := by rw [← hW0]; exact frozen_up _ (by simp only [World.size_alloc]; omega) (frozen_new_at _ _ _ _ _ rfl)
  have b1 : w.heap.size + 1 < W0.heap.size := by rw [← hW0]; simp only [World.size_alloc]; omega
  have k5 : W0.cell? ⟨w.heap.size + 1, 0, none⟩ = some (.int .u32 0) := by rw [← hW0]; exact cell_new_at _ _ _ _ _ _ (by simp) rfl
  have k6 : W0.cell? ⟨w.heap.size + 1, 1, none⟩ = some (.int .u16 0) := by rw [← hW0]; exact cell_new_at _ _ _ _ _ _ (by simp) rfl
  have k7 : W0.cell? ⟨w.heap.size + 1, 2, none⟩ = some (.int .u32 0) := by rw [← hW0]; exact cell_new_at _ _ _ _ _ _ (by simp) rfl
  have k8 : W0.cell? ⟨w.heap.size + 1, 3, none⟩ = some (.int .u16 0) := by rw [← hW0]; exact cell_new_at _ _ _ _ _ _ (by simp) rfl
  have k9 : W0.cell? ⟨w.heap.size + 1, 4, none⟩ = some (.string ⟨#[]⟩) := by rw [← hW0]; exact cell_new_at _ _ _ _ _ _ (by simp) rfl
  have HW_W0 := hid (show Below w.heap.size w W0 by rw [← hW0]; exact below_new (below_new (Below.refl _ _) _) _)
  rw [hW0]
  clear hW0
  have HB := Below.refl W0.heap.size W0
  refine (Calls.since HB (rn4 s _ (by omega) (by omega))).mono ?_; clear HB
  rw [HN.out]
  rintro e w1 ⟨rfl, HB⟩
  obtain ⟨W1, hW1⟩ : ∃ W, w1 = W := ⟨_, rfl⟩
  have HX : Below W0.heap.size W0 W1 := by rw [← hW1]; exact HB
  have b0' : w.heap.size < W1.heap.size := Nat.lt_of_lt_of_le b0 HX.size
  have b1' : w.heap.size + 1 < W1.heap.size := Nat.lt_of_lt_of_le b1 HX.size
  have k0' := cell_stays HX b0 k0
  have k1' := cell_stays HX b0 k1
  have k2' := cell_stays HX b0 k2
  have k3' := cell_stays HX b0 k3
  have k4' := cell_stays HX b0 k4
  have k5' := cell_stays HX b1 k5
  have k6' := cell_stays HX b1 k6
  have k7' := cell_stays HX b1 k7
  have k8' := cell_stays HX b1 k8
  have k9' := cell_stays HX b1 k9
  have fz0' := frozen_stays HX b0 fz0
  have fz1' := frozen_stays HX b0 fz1
  have fz2' := frozen_stays HX b0 fz2
  have fz3' := frozen_stays HX b0 fz3
  have fz4' := frozen_stays HX b0 fz4
  have HW_W1 := hid (HW_W0.out.trans (HX.mono HW_W0.out.size))
  clear HX k0 k1 k2 k3 k4 k5 k6 k7 k8 k9 fz0 fz1 fz2 fz3 fz4 b0 b1 HW_W0
  have b0 := b0'
  have b1 := b1'
  have k0 := k0'
  have k1 := k1'
  have k2 := k2'
  have k3 := k3'
  have k4 := k4'
  have k5 := k5'
  have k6 := k6'
  have k7 := k7'
  have k8 := k8'
  have k9 := k9'
  have fz0 := fz0'
  have fz1 := fz1'
  have fz2 := fz2'
  have fz3 := fz3'
  have fz4 := fz4'
  clear fz0' fz1' fz2' fz3' fz4'
  clear b0' b1' k0' k1' k2' k3' k4' k5' k6' k7' k8' k9'
  rw [hW1]
  clear hW1
  have HB := Below.refl W1.heap.size W1
  go_wp2_with fail
  obtain ⟨r0, r1, r2, r3, r4⟩ := set5 (v0 := .int .u32 0) (v1 := .int .u16 0) (v2 := .int .u32 0) (v3 := .int .u16 0) (v4 := .string ⟨#[]⟩) k0 k1 k2 k3 k4
  refine bodyPost_ret (v := .tuple #[dg 0 0 0 0 ⟨#[]⟩, .int .i64 4]) ?_ rfl ⟨rfl, ?_⟩
  · exact res_dg rfl _ _ _ _ _ _ _ _ _ rfl rfl r0 r1 r2 r3 r4
  · with_reducible repeat (first | exact HW_W1.out | refine Below.drew ?_ | refine below_new ?_ _ | refine below_drewN ?_ _ | refine below_set ?_ (by omega))

set_option maxHeartbeats 1000000 in
set_option maxRecDepth 100000 in
theorem rudpDecode_5 (x y p q n : Int) (s : ByteArray) (w : World) (hs : s.size ≤ 140737488355000) (hx : 0 ≤ x) (hx2 : x < 4294967296) (hy : 0 ≤ y) (hy2 : y < 4294967296) (hp : Sp.u2 s 0 = p) (hq : Sp.u2 s 2 = q) (hn : Sp.u2 s 4 = n) (hp0 : 0 ≤ p) (hp1 : p ≤ 65535) (hq0 : 0 ≤ q) (hq1 : q ≤ 65535) (hn0 : 0 ≤ n) (hn1 : n ≤ 65535) (z : Bool) (hz : ((s.extract 6 8).toList == [0, 0]) = z) (h1 : (8 : Int) ≤ s.size) (h2 : 8 ≤ n) (h3 : n ≤ s.size) (h4 : n ≤ 65515) (hzz : z = false) (hr : (Sp.sumB (Sp.headB x y 17 n ++ s.extract 0 n.toNat) == 65535) = false) :
    Calls Try.prog 32 #[.int .u32 x, .int .u32 y, .string s] w fun e w' => e = .returned (.tuple #[dg 0 0 0 0 ⟨#[]⟩, .int .i64 101]) ∧ Below w.heap.size w w' := by
  subst hzz
  have HR := hid hr
  clear hr
  have HP := hid hp
  have HQ := hid hq
  have HN := hid hn
  clear hp hq hn
  have in1 : IntKind.i64.wrap n = n := IntWalk.i64_in _ (by omega)
  have ip1 : IntKind.u16.wrap p = p := IntWalk.u16_in _ (by omega)
  have iq1 : IntKind.u16.wrap q = q := IntWalk.u16_in _ (by omega)
  have hHz := Sp.headB_size x y 17 n
  have hze : (Sp.headB x y 17 n ++ s.extract 0 n.toNat).size ≤ maxLen := by rw [ByteArray.size_append, hHz, ByteArray.size_extract]; unfold maxLen; omega
  have nzd : ¬ 9223372036854775807 < 12 + n.toNat := by omega
  have nzc : ¬ 9223372036854775807 < 12 + min n.toNat s.size := by omega
  go_enter Try.func32, Try.ntmps32
  go_wp2_with fail
  obtain ⟨W0, hW0⟩ : ∃ W, (w.alloc (.cells #[.int .u32 0, .int .u16 0, .int .u32 0, .int .u16 0, .string ⟨#[]⟩] 46)).alloc (.cells #[.int .u32 0, .int .u16 0, .int .u32 0, .int .u16 0, .string ⟨#[]⟩] 46) = W := ⟨_, rfl⟩
  have b0 : w.heap.size < W0.heap.size := by rw [← hW0]; simp only [World.size_alloc]; omega
  have k0 : W0.cell? ⟨w.heap.size, 0, none⟩ = some (.int .u32 0) := by rw [← hW0]; exact cell_alloc_l _ (cell_new_at _ _ _ _ _ _ (by simp) rfl)
  have k1 : W0.cell? ⟨w.heap.size, 1, none⟩ = some (.int .u16 0) := by rw [← hW0]; exact cell_alloc_l _ (cell_new_at _ _ _ _ _ _ (by simp) rfl)
  have k2 : W0.cell? ⟨w.heap.size, 2, none⟩ = some (.int .u32 0) := by rw [← hW0]; exact cell_alloc_l _ (cell_new_at _ _ _ _ _ _ (by simp) rfl)
  have k3 : W0.cell? ⟨w.heap.size, 3, none⟩ = some (.int .u16 0) := by rw [← hW0]; exact cell_alloc_l _ (cell_new_at _ _ _ _ _ _ (by simp) rfl)
  have k4 : W0.cell? ⟨w.heap.size, 4, none⟩ = some (.string ⟨#[]⟩) := by rw [← hW0]; exact cell_alloc_l _ (cell_new_at _ _ _ _ _ _ (by simp) rfl)
  have fz0 : W0.frozen? ⟨w.heap.size, 0, none⟩ = false := by rw [← hW0]; exact frozen_up _ (by simp only [World.size_alloc]; omega) (frozen_new_at _ _ _ _ _ rfl)
  have fz1 : W0.frozen? ⟨w.heap.size, 1, none⟩ = false := by rw [← hW0]; exact frozen_up _ (by simp only [World.size_alloc]; omega) (frozen_new_at _ _ _ _ _ rfl)
  have fz2 : W0.frozen? ⟨w.heap.size, 2, none⟩ = false := by rw [← hW0]; exact frozen_up _ (by simp only [World.size_alloc]; omega) (frozen_new_at _ _ _ _ _ rfl)
  have fz3 : W0.frozen? ⟨w.heap.size, 3, none⟩ = false := by rw [← hW0]; exact frozen_up _ (by simp only [World.size_alloc]; omega) (frozen_new_at _ _ _ _ _ rfl)
  have fz4 : W0.frozen? ⟨w.heap.size, 4, none⟩ = false := by rw [← hW0]; exact frozen_up _ (by simp only [World.size_alloc]; omega) (frozen_new_at _ _ _ _ _ rfl)
  have b1 : w.heap.size + 1 < W0.heap.size := by rw [← hW0]; simp only [World.size_alloc]; omega
  have k5 : W0.cell? ⟨w.heap.size + 1, 0, none⟩ = some (.int .u32 0) := by rw [← hW0]; exact cell_new_at _ _ _ _ _ _ (by simp) rfl
  have k6 : W0.cell? ⟨w.heap.size + 1, 1, none⟩ = some (.int .u16 0) := by rw [← hW0]; exact cell_new_at _ _ _ _ _ _ (by simp) rfl
  have k7 : W0.cell? ⟨w.heap.size + 1, 2, none⟩ = some (.int .u32 0) := by rw [← hW0]; exact cell_new_at _ _ _ _ _ _ (by simp) rfl
  have k8 : W0.cell? ⟨w.heap.size + 1, 3, none⟩ = some (.int .u16 0) := by rw [← hW0]; exact cell_new_at _ _ _ _ _ _ (by simp) rfl
  have k9 : W0.cell? ⟨w.heap.size + 1, 4, none⟩ = some (.string ⟨#[]⟩) := by rw [← hW0]; exact cell_new_at _ _ _ _ _ _ (by simp) rfl
  have HW_W0 := hid (show Below w.heap.size w W0 by rw [← hW0]; exact below_new (below_new (Below.refl _ _) _) _)
  rw [hW0]
  clear hW0
  have HB := Below.refl W0.heap.size W0
  refine (Calls.since HB (rn4 s _ (by omega) (by omega))).mono ?_; clear HB
  rw [HN.out]
  rintro e w1 ⟨rfl, HB⟩
  obtain ⟨W1, hW1⟩ : ∃ W, w1 = W := ⟨_, rfl⟩
  have HX : Below W0.heap.size W0 W1 := by rw [← hW1]; exact HB
  have b0' : w.heap.size < W1.heap.size := Nat.lt_of_lt_of_le b0 HX.size
  have b1' : w.heap.size + 1 < W1.heap.size := Nat.lt_of_lt_of_le b1 HX.size
  have k0' := cell_stays HX b0 k0
  have k1' := cell_stays HX b0 k1
  have k2' := cell_stays HX b0 k2
  have k3' := cell_stays HX b0 k3
  have k4' := cell_stays HX b0 k4
  have k5' := cell_stays HX b1 k5
  have k6' := cell_stays HX b1 k6
  have k7' := cell_stays HX b1 k7
  have k8' := cell_stays HX b1 k8
  have k9' := cell_stays HX b1 k9
  have fz0' := frozen_stays HX b0 fz0
  have fz1' := frozen_stays HX b0 fz1
  have fz2' := frozen_stays HX b0 fz2
  have fz3' := frozen_stays HX b0 fz3
  have fz4' := frozen_stays HX b0 fz4
  have HW_W1 := hid (HW_W0.out.trans (HX.mono HW_W0.out.size))
  clear HX k0 k1 k2 k3 k4 k5 k6 k7 k8 k9 fz0 fz1 fz2 fz3 fz4 b0 b1 HW_W0
  have b0 := b0'
  have b1 := b1'
  have k0 := k0'
  have k1 := k1'
  have k2 := k2'
  have k3 := k3'
  have k4 := k4'
  have k5 := k5'
  have k6 := k6'
  have k7 := k7'
  have k8 := k8'
  have k9 := k9'
  have fz0 := fz0'
  have fz1 := fz1'
  have fz2 := fz2'
  have fz3 := fz3'
  have fz4 := fz4'
  clear fz0' fz1' fz2' fz3' fz4'
  clear b0' b1' k0' k1' k2' k3' k4' k5' k6' k7' k8' k9'
  rw [hW1]
  clear hW1
  have HB := Below.refl W1.heap.size W1
  go_wp2_with fail
  go_region_held3 (fun w' => Below W1.heap.size W1 w')
    (exact by repeat (first | assumption | exact (‹Below W1.heap.size W1 _ ∧ _›).1 | apply below_new | apply below_drewN | apply Below.drew))
    (first | (go_at_call 26; refine (Calls.since (w0 := W1) ?_ (rhead_n _ _ _ _ _ ?_ ?_ ?_ ?_ ?_ ?_ ?_ ?_)).mono ?_; (first | assumption | (apply Below.drew; assumption) | (apply below_drewN; assumption) | (apply below_new; assumption) | exact (‹Below W1.heap.size W1 _ ∧ _›).1); omega; omega; omega; omega; omega; omega; omega; omega; rintro e w3 ⟨rfl, HB3⟩) | (go_at_call 22; refine (rright_any _ _ ?_).mono ?_; exact hze; rw [HR.out]; rintro e w4 ⟨rfl, rfl⟩))
  have xk0 := cell_stays HB3 b0 k0
  have xk1 := cell_stays HB3 b0 k1
  have xk2 := cell_stays HB3 b0 k2
  have xk3 := cell_stays HB3 b0 k3
  have xk4 := cell_stays HB3 b0 k4
  have xk5 := cell_stays HB3 b1 k5
  have xk6 := cell_stays HB3 b1 k6
  have xk7 := cell_stays HB3 b1 k7
  have xk8 := cell_stays HB3 b1 k8
  have xk9 := cell_stays HB3 b1 k9
  have xfz0 := frozen_stays HB3 b0 fz0
  have xfz1 := frozen_stays HB3 b0 fz1
  have xfz2 := frozen_stays HB3 b0 fz2
  have xfz3 := frozen_stays HB3 b0 fz3
  have xfz4 := frozen_stays HB3 b0 fz4
  have HW_3 := hid (HW_W1.out.trans (HB3.mono HW_W1.out.size))
  go_wp2_with fail
  obtain ⟨r0, r1, r2, r3, r4⟩ := set5 (v0 := .int .u32 0) (v1 := .int .u16 0) (v2 := .int .u32 0) (v3 := .int .u16 0) (v4 := .string ⟨#[]⟩) xk0 xk1 xk2 xk3 xk4
  refine bodyPost_ret (v := .tuple #[dg 0 0 0 0 ⟨#[]⟩, .int .i64 101]) ?_ rfl ⟨rfl, ?_⟩
  · exact res_dg rfl _ _ _ _ _ _ _ _ _ rfl rfl r0 r1 r2 r3 r4
  · with_reducible repeat (first | exact HW_3.out | refine Below.drew ?_ | refine below_new ?_ _ | refine below_drewN ?_ _ | refine below_set ?_ (by omega))

set_option maxHeartbeats 1000000 in
set_option maxRecDepth 100000 in
theorem rudpDecode_6 (x y p q n : Int) (s : ByteArray) (w : World) (hs : s.size ≤ 140737488355000) (hx : 0 ≤ x) (hx2 : x < 4294967296) (hy : 0 ≤ y) (hy2 : y < 4294967296) (hp : Sp.u2 s 0 = p) (hq : Sp.u2 s 2 = q) (hn : Sp.u2 s 4 = n) (hp0 : 0 ≤ p) (hp1 : p ≤ 65535) (hq0 : 0 ≤ q) (hq1 : q ≤ 65535) (hn0 : 0 ≤ n) (hn1 : n ≤ 65535) (z : Bool) (hz : ((s.extract 6 8).toList == [0, 0]) = z) (h1 : (8 : Int) ≤ s.size) (h2 : 8 ≤ n) (h3 : n ≤ s.size) (h4 : n ≤ 65515) (hzz : z = false) (hr : (Sp.sumB (Sp.headB x y 17 n ++ s.extract 0 n.toNat) == 65535) = true) :
    Calls Try.prog 32 #[.int .u32 x, .int .u32 y, .string s] w fun e w' => e = .returned (.tuple #[dg x p y q (s.extract 8 n.toNat), .int .i64 0]) ∧ Below w.heap.size w w' := by
  subst hzz
  have HR := hid hr
  clear hr
  have HP := hid hp
  have HQ := hid hq
  have HN := hid hn
  clear hp hq hn
  have in1 : IntKind.i64.wrap n = n := IntWalk.i64_in _ (by omega)
  have ip1 : IntKind.u16.wrap p = p := IntWalk.u16_in _ (by omega)
  have iq1 : IntKind.u16.wrap q = q := IntWalk.u16_in _ (by omega)
  have hHz := Sp.headB_size x y 17 n
  have hze : (Sp.headB x y 17 n ++ s.extract 0 n.toNat).size ≤ maxLen := by rw [ByteArray.size_append, hHz, ByteArray.size_extract]; unfold maxLen; omega
  have nzd : ¬ 9223372036854775807 < 12 + n.toNat := by omega
  have nzc : ¬ 9223372036854775807 < 12 + min n.toNat s.size := by omega
  go_enter Try.func32, Try.ntmps32
  go_wp2_with fail
  obtain ⟨W0, hW0⟩ : ∃ W, (w.alloc (.cells #[.int .u32 0, .int .u16 0, .int .u32 0, .int .u16 0, .string ⟨#[]⟩] 46)).alloc (.cells #[.int .u32 0, .int .u16 0, .int .u32 0, .int .u16 0, .string ⟨#[]⟩] 46) = W := ⟨_, rfl⟩
  have b0 : w.heap.size < W0.heap.size := by rw [← hW0]; simp only [World.size_alloc]; omega
  have k0 : W0.cell? ⟨w.heap.size, 0, none⟩ = some (.int .u32 0) := by rw [← hW0]; exact cell_alloc_l _ (cell_new_at _ _ _ _ _ _ (by simp) rfl)
  have k1 : W0.cell? ⟨w.heap.size, 1, none⟩ = some (.int .u16 0) := by rw [← hW0]; exact cell_alloc_l _ (cell_new_at _ _ _ _ _ _ (by simp) rfl)
  have k2 : W0.cell? ⟨w.heap.size, 2, none⟩ = some (.int .u32 0) := by rw [← hW0]; exact cell_alloc_l _ (cell_new_at _ _ _ _ _ _ (by simp) rfl)
  have k3 : W0.cell? ⟨w.heap.size, 3, none⟩ = some (.int .u16 0) := by rw [← hW0]; exact cell_alloc_l _ (cell_new_at _ _ _ _ _ _ (by simp) rfl)
  have k4 : W0.cell? ⟨w.heap.size, 4, none⟩ = some (.string ⟨#[]⟩) := by rw [← hW0]; exact cell_alloc_l _ (cell_new_at _ _ _ _ _ _ (by simp) rfl)
  have fz0 : W0.frozen? ⟨w.heap.size, 0, none⟩ = false := by rw [← hW0]; exact frozen_up _ (by simp only [World.size_alloc]; omega) (frozen_new_at _ _ _ _ _ rfl)
  have fz1 : W0.frozen? ⟨w.heap.size, 1, none⟩ = false := by rw [← hW0]; exact frozen_up _ (by simp only [World.size_alloc]; omega) (frozen_new_at _ _ _ _ _ rfl)
  have fz2 : W0.frozen? ⟨w.heap.size, 2, none⟩ = false := by rw [← hW0]; exact frozen_up _ (by simp only [World.size_alloc]; omega) (frozen_new_at _ _ _ _ _ rfl)
  have fz3 : W0.frozen? ⟨w.heap.size, 3, none⟩ = false := by rw [← hW0]; exact frozen_up _ (by simp only [World.size_alloc]; omega) (frozen_new_at _ _ _ _ _ rfl)
  have fz4 : W0.frozen? ⟨w.heap.size, 4, none⟩ = false := by rw [← hW0]; exact frozen_up _ (by simp only [World.size_alloc]; omega) (frozen_new_at _ _ _ _ _ rfl)
  have b1 : w.heap.size + 1 < W0.heap.size := by rw [← hW0]; simp only [World.size_alloc]; omega
  have k5 : W0.cell? ⟨w.heap.size + 1, 0, none⟩ = some (.int .u32 0) := by rw [← hW0]; exact cell_new_at _ _ _ _ _ _ (by simp) rfl
  have k6 : W0.cell? ⟨w.heap.size + 1, 1, none⟩ = some (.int .u16 0) := by rw [← hW0]; exact cell_new_at _ _ _ _ _ _ (by simp) rfl
  have k7 : W0.cell? ⟨w.heap.size + 1, 2, none⟩ = some (.int .u32 0) := by rw [← hW0]; exact cell_new_at _ _ _ _ _ _ (by simp) rfl
  have k8 : W0.cell? ⟨w.heap.size + 1, 3, none⟩ = some (.int .u16 0) := by rw [← hW0]; exact cell_new_at _ _ _ _ _ _ (by simp) rfl
  have k9 : W0.cell? ⟨w.heap.size + 1, 4, none⟩ = some (.string ⟨#[]⟩) := by rw [← hW0]; exact cell_new_at _ _ _ _ _ _ (by simp) rfl
  have HW_W0 := hid (show Below w.heap.size w W0 by rw [← hW0]; exact below_new (below_new (Below.refl _ _) _) _)
  rw [hW0]
  clear hW0
  have HB := Below.refl W0.heap.size W0
  refine (Calls.since HB (rn4 s _ (by omega) (by omega))).mono ?_; clear HB
  rw [HN.out]
  rintro e w1 ⟨rfl, HB⟩
  obtain ⟨W1, hW1⟩ : ∃ W, w1 = W := ⟨_, rfl⟩
  have HX : Below W0.heap.size W0 W1 := by rw [← hW1]; exact HB
  have b0' : w.heap.size < W1.heap.size := Nat.lt_of_lt_of_le b0 HX.size
  have b1' : w.heap.size + 1 < W1.heap.size := Nat.lt_of_lt_of_le b1 HX.size
  have k0' := cell_stays HX b0 k0
  have k1' := cell_stays HX b0 k1
  have k2' := cell_stays HX b0 k2
  have k3' := cell_stays HX b0 k3
  have k4' := cell_stays HX b0 k4
  have k5' := cell_stays HX b1 k5
  have k6' := cell_stays HX b1 k6
  have k7' := cell_stays HX b1 k7
  have k8' := cell_stays HX b1 k8
  have k9' := cell_stays HX b1 k9
  have fz0' := frozen_stays HX b0 fz0
  have fz1' := frozen_stays HX b0 fz1
  have fz2' := frozen_stays HX b0 fz2
  have fz3' := frozen_stays HX b0 fz3
  have fz4' := frozen_stays HX b0 fz4
  have HW_W1 := hid (HW_W0.out.trans (HX.mono HW_W0.out.size))
  clear HX k0 k1 k2 k3 k4 k5 k6 k7 k8 k9 fz0 fz1 fz2 fz3 fz4 b0 b1 HW_W0
  have b0 := b0'
  have b1 := b1'
  have k0 := k0'
  have k1 := k1'
  have k2 := k2'
  have k3 := k3'
  have k4 := k4'
  have k5 := k5'
  have k6 := k6'
  have k7 := k7'
  have k8 := k8'
  have k9 := k9'
  have fz0 := fz0'
  have fz1 := fz1'
  have fz2 := fz2'
  have fz3 := fz3'
  have fz4 := fz4'
  clear fz0' fz1' fz2' fz3' fz4'
  clear b0' b1' k0' k1' k2' k3' k4' k5' k6' k7' k8' k9'
  rw [hW1]
  clear hW1
  have HB := Below.refl W1.heap.size W1
  go_wp2_with fail
  go_region_held3 (fun w' => Below W1.heap.size W1 w')
    (exact by repeat (first | assumption | exact (‹Below W1.heap.size W1 _ ∧ _›).1 | apply below_new | apply below_drewN | apply Below.drew))
    (first | (go_at_call 26; refine (Calls.since (w0 := W1) ?_ (rhead_n _ _ _ _ _ ?_ ?_ ?_ ?_ ?_ ?_ ?_ ?_)).mono ?_; (first | assumption | (apply Below.drew; assumption) | (apply below_drewN; assumption) | (apply below_new; assumption) | exact (‹Below W1.heap.size W1 _ ∧ _›).1); omega; omega; omega; omega; omega; omega; omega; omega; rintro e w3 ⟨rfl, HB3⟩) | (go_at_call 22; refine (rright_any _ _ ?_).mono ?_; exact hze; rw [HR.out]; rintro e w4 ⟨rfl, rfl⟩))
  go_wp2_with fail
  refine (Calls.since HB3 (rn0 s _ (by omega) (by omega))).mono ?_
  rw [HP.out]
  rintro e w5 ⟨rfl, HB5⟩
  go_wp2_with fail
  refine (Calls.since HB5 (rn2 s _ (by omega) (by omega))).mono ?_
  rw [HQ.out]
  rintro e w6 ⟨rfl, HB6⟩
  have xk0 := cell_stays HB6 b0 k0
  have xk1 := cell_stays HB6 b0 k1
  have xk2 := cell_stays HB6 b0 k2
  have xk3 := cell_stays HB6 b0 k3
  have xk4 := cell_stays HB6 b0 k4
  have xk5 := cell_stays HB6 b1 k5
  have xk6 := cell_stays HB6 b1 k6
  have xk7 := cell_stays HB6 b1 k7
  have xk8 := cell_stays HB6 b1 k8
  have xk9 := cell_stays HB6 b1 k9
  have xfz0 := frozen_stays HB6 b0 fz0
  have xfz1 := frozen_stays HB6 b0 fz1
  have xfz2 := frozen_stays HB6 b0 fz2
  have xfz3 := frozen_stays HB6 b0 fz3
  have xfz4 := frozen_stays HB6 b0 fz4
  have HW_6 := hid (HW_W1.out.trans (HB6.mono HW_W1.out.size))
  go_wp2_with fail
  obtain ⟨r0, r1, r2, r3, r4⟩ := set5 (v0 := .int .u32 x) (v1 := .int .u16 p) (v2 := .int .u32 y) (v3 := .int .u16 q) (v4 := .string (s.extract 8 n.toNat)) xk0 xk1 xk2 xk3 xk4
  refine bodyPost_ret (v := .tuple #[dg x p y q (s.extract 8 n.toNat), .int .i64 0]) ?_ rfl ⟨rfl, ?_⟩
  · exact res_dg rfl _ _ _ _ _ _ _ _ _ rfl rfl r0 r1 r2 r3 r4
  · with_reducible repeat (first | exact HW_6.out | refine Below.drew ?_ | refine below_new ?_ _ | refine below_drewN ?_ _ | refine below_set ?_ (by omega))

set_option maxHeartbeats 1000000 in
set_option maxRecDepth 100000 in
theorem rudpDecode_7 (x y p q n : Int) (s : ByteArray) (w : World) (hs : s.size ≤ 140737488355000) (hx : 0 ≤ x) (hx2 : x < 4294967296) (hy : 0 ≤ y) (hy2 : y < 4294967296) (hp : Sp.u2 s 0 = p) (hq : Sp.u2 s 2 = q) (hn : Sp.u2 s 4 = n) (hp0 : 0 ≤ p) (hp1 : p ≤ 65535) (hq0 : 0 ≤ q) (hq1 : q ≤ 65535) (hn0 : 0 ≤ n) (hn1 : n ≤ 65535) (z : Bool) (hz : ((s.extract 6 8).toList == [0, 0]) = z) (h1 : (8 : Int) ≤ s.size) (h2 : 8 ≤ n) (h3 : n ≤ s.size) (h4 : n ≤ 65515) (hzz : z = true) :
    Calls Try.prog 32 #[.int .u32 x, .int .u32 y, .string s] w fun e w' => e = .returned (.tuple #[dg x p y q (s.extract 8 n.toNat), .int .i64 0]) ∧ Below w.heap.size w w' := by
  subst hzz
  have HP := hid hp
  have HQ := hid hq
  have HN := hid hn
  clear hp hq hn
  have in1 : IntKind.i64.wrap n = n := IntWalk.i64_in _ (by omega)
  have ip1 : IntKind.u16.wrap p = p := IntWalk.u16_in _ (by omega)
  have iq1 : IntKind.u16.wrap q = q := IntWalk.u16_in _ (by omega)
  go_enter Try.func32, Try.ntmps32
  go_wp2_with fail
  obtain ⟨W0, hW0⟩ : ∃ W, (w.alloc (.cells #[.int .u32 0, .int .u16 0, .int .u32 0, .int .u16 0, .string ⟨#[]⟩] 46)).alloc (.cells #[.int .u32 0, .int .u16 0, .int .u32 0, .int .u16 0, .string ⟨#[]⟩] 46) = W := ⟨_, rfl⟩
  have b0 : w.heap.size < W0.heap.size := by rw [← hW0]; simp only [World.size_alloc]; omega
  have k0 : W0.cell? ⟨w.heap.size, 0, none⟩ = some (.int .u32 0) := by rw [← hW0]; exact cell_alloc_l _ (cell_new_at _ _ _ _ _ _ (by simp) rfl)
  have k1 : W0.cell? ⟨w.heap.size, 1, none⟩ = some (.int .u16 0) := by rw [← hW0]; exact cell_alloc_l _ (cell_new_at _ _ _ _ _ _ (by simp) rfl)
  have k2 : W0.cell? ⟨w.heap.size, 2, none⟩ = some (.int .u32 0) := by rw [← hW0]; exact cell_alloc_l _ (cell_new_at _ _ _ _ _ _ (by simp) rfl)
  have k3 : W0.cell? ⟨w.heap.size, 3, none⟩ = some (.int .u16 0) := by rw [← hW0]; exact cell_alloc_l _ (cell_new_at _ _ _ _ _ _ (by simp) rfl)
  have k4 : W0.cell? ⟨w.heap.size, 4, none⟩ = some (.string ⟨#[]⟩) := by rw [← hW0]; exact cell_alloc_l _ (cell_new_at _ _ _ _ _ _ (by simp) rfl)
  have fz0 : W0.frozen? ⟨w.heap.size, 0, none⟩ = false := by rw [← hW0]; exact frozen_up _ (by simp only [World.size_alloc]; omega) (frozen_new_at _ _ _ _ _ rfl)
  have fz1 : W0.frozen? ⟨w.heap.size, 1, none⟩ = false := by rw [← hW0]; exact frozen_up _ (by simp only [World.size_alloc]; omega) (frozen_new_at _ _ _ _ _ rfl)
  have fz2 : W0.frozen? ⟨w.heap.size, 2, none⟩ = false := by rw [← hW0]; exact frozen_up _ (by simp only [World.size_alloc]; omega) (frozen_new_at _ _ _ _ _ rfl)
  have fz3 : W0.frozen? ⟨w.heap.size, 3, none⟩ = false := by rw [← hW0]; exact frozen_up _ (by simp only [World.size_alloc]; omega) (frozen_new_at _ _ _ _ _ rfl)
  have fz4 : W0.frozen? ⟨w.heap.size, 4, none⟩ = false := by rw [← hW0]; exact frozen_up _ (by simp only [World.size_alloc]; omega) (frozen_new_at _ _ _ _ _ rfl)
  have b1 : w.heap.size + 1 < W0.heap.size := by rw [← hW0]; simp only [World.size_alloc]; omega
  have k5 : W0.cell? ⟨w.heap.size + 1, 0, none⟩ = some (.int .u32 0) := by rw [← hW0]; exact cell_new_at _ _ _ _ _ _ (by simp) rfl
  have k6 : W0.cell? ⟨w.heap.size + 1, 1, none⟩ = some (.int .u16 0) := by rw [← hW0]; exact cell_new_at _ _ _ _ _ _ (by simp) rfl
  have k7 : W0.cell? ⟨w.heap.size + 1, 2, none⟩ = some (.int .u32 0) := by rw [← hW0]; exact cell_new_at _ _ _ _ _ _ (by simp) rfl
  have k8 : W0.cell? ⟨w.heap.size + 1, 3, none⟩ = some (.int .u16 0) := by rw [← hW0]; exact cell_new_at _ _ _ _ _ _ (by simp) rfl
  have k9 : W0.cell? ⟨w.heap.size + 1, 4, none⟩ = some (.string ⟨#[]⟩) := by rw [← hW0]; exact cell_new_at _ _ _ _ _ _ (by simp) rfl
  have HW_W0 := hid (show Below w.heap.size w W0 by rw [← hW0]; exact below_new (below_new (Below.refl _ _) _) _)
  rw [hW0]
  clear hW0
  have HB := Below.refl W0.heap.size W0
  refine (Calls.since HB (rn4 s _ (by omega) (by omega))).mono ?_; clear HB
  rw [HN.out]
  rintro e w1 ⟨rfl, HB⟩
  obtain ⟨W1, hW1⟩ : ∃ W, w1 = W := ⟨_, rfl⟩
  have HX : Below W0.heap.size W0 W1 := by rw [← hW1]; exact HB
  have b0' : w.heap.size < W1.heap.size := Nat.lt_of_lt_of_le b0 HX.size
  have b1' : w.heap.size + 1 < W1.heap.size := Nat.lt_of_lt_of_le b1 HX.size
  have k0' := cell_stays HX b0 k0
  have k1' := cell_stays HX b0 k1
  have k2' := cell_stays HX b0 k2
  have k3' := cell_stays HX b0 k3
  have k4' := cell_stays HX b0 k4
  have k5' := cell_stays HX b1 k5
  have k6' := cell_stays HX b1 k6
  have k7' := cell_stays HX b1 k7
  have k8' := cell_stays HX b1 k8
  have k9' := cell_stays HX b1 k9
  have fz0' := frozen_stays HX b0 fz0
  have fz1' := frozen_stays HX b0 fz1
  have fz2' := frozen_stays HX b0 fz2
  have fz3' := frozen_stays HX b0 fz3
  have fz4' := frozen_stays HX b0 fz4
  have HW_W1 := hid (HW_W0.out.trans (HX.mono HW_W0.out.size))
  clear HX k0 k1 k2 k3 k4 k5 k6 k7 k8 k9 fz0 fz1 fz2 fz3 fz4 b0 b1 HW_W0
  have b0 := b0'
  have b1 := b1'
  have k0 := k0'
  have k1 := k1'
  have k2 := k2'
  have k3 := k3'
  have k4 := k4'
  have k5 := k5'
  have k6 := k6'
  have k7 := k7'
  have k8 := k8'
  have k9 := k9'
  have fz0 := fz0'
  have fz1 := fz1'
  have fz2 := fz2'
  have fz3 := fz3'
  have fz4 := fz4'
  clear fz0' fz1' fz2' fz3' fz4'
  clear b0' b1' k0' k1' k2' k3' k4' k5' k6' k7' k8' k9'
  rw [hW1]
  clear hW1
  have HB := Below.refl W1.heap.size W1
  go_wp2_with fail
  go_quiet (fail)
  go_wp2_with fail
  refine (Calls.since (below_drewN HB _) (rn0 s _ (by omega) (by omega))).mono ?_
  rw [HP.out]
  rintro e w5 ⟨rfl, HB5⟩
  go_wp2_with fail
  refine (Calls.since HB5 (rn2 s _ (by omega) (by omega))).mono ?_
  rw [HQ.out]
  rintro e w6 ⟨rfl, HB6⟩
  have xk0 := cell_stays HB6 b0 k0
  have xk1 := cell_stays HB6 b0 k1
  have xk2 := cell_stays HB6 b0 k2
  have xk3 := cell_stays HB6 b0 k3
  have xk4 := cell_stays HB6 b0 k4
  have xk5 := cell_stays HB6 b1 k5
  have xk6 := cell_stays HB6 b1 k6
  have xk7 := cell_stays HB6 b1 k7
  have xk8 := cell_stays HB6 b1 k8
  have xk9 := cell_stays HB6 b1 k9
  have xfz0 := frozen_stays HB6 b0 fz0
  have xfz1 := frozen_stays HB6 b0 fz1
  have xfz2 := frozen_stays HB6 b0 fz2
  have xfz3 := frozen_stays HB6 b0 fz3
  have xfz4 := frozen_stays HB6 b0 fz4
  have HW_6 := hid (HW_W1.out.trans (HB6.mono HW_W1.out.size))
  go_wp2_with fail
  obtain ⟨r0, r1, r2, r3, r4⟩ := set5 (v0 := .int .u32 x) (v1 := .int .u16 p) (v2 := .int .u32 y) (v3 := .int .u16 q) (v4 := .string (s.extract 8 n.toNat)) xk0 xk1 xk2 xk3 xk4
  refine bodyPost_ret (v := .tuple #[dg x p y q (s.extract 8 n.toNat), .int .i64 0]) ?_ rfl ⟨rfl, ?_⟩
  · exact res_dg rfl _ _ _ _ _ _ _ _ _ rfl rfl r0 r1 r2 r3 r4
  · with_reducible repeat (first | exact HW_6.out | refine Below.drew ?_ | refine below_new ?_ _ | refine below_drewN ?_ _ | refine below_set ?_ (by omega))
end Go.Proofs.Ytlpeefemffmpmaa
