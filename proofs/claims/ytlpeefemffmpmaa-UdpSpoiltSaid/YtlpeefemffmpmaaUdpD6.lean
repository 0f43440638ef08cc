/- Contract of udp.Decode. -/
import Derived.Test.YtlpeefemffmpmaaUdpC
import Derived.Laws.EntriesVeiled
namespace Go.Proofs.Ytlpeefemffmpmaa
open Go.RowKit
set_option linter.unusedVariables false

set_option maxHeartbeats 2000000 in
set_option maxRecDepth 100000 in
theorem udpDecode_6 (x y p q n c : Int) (s : ByteArray) (w : World) (hs : s.size ≤ 140737488355000) (hx : 0 ≤ x) (hx2 : x < 4294967296) (hy : 0 ≤ y) (hy2 : y < 4294967296) (hp : Sp.num 65536 (Sp.textS s 0 2).data.toList = p) (hq : Sp.num 65536 (Sp.textS s 2 2).data.toList = q) (hn : Sp.num 65536 (Sp.textS s 4 2).data.toList = n) (hc : Sp.num 65536 (Sp.textS s 6 2).data.toList = c) (hn0 : 0 ≤ n) (hn1 : n ≤ 65535) (hc0 : 0 ≤ c) (hc1 : c ≤ 65535) (h1 : (8 : Int) ≤ s.size) (h2 : 8 ≤ n) (h3 : n ≤ s.size) (h4 : n ≤ 65515) (hcz : (c != 0) = true) (hr : (Sp.sumB (Sp.headB x y 17 n ++ s.extract 0 n.toNat) == 65535) = true) :
    Calls Try.prog 31 #[.int .u32 x, .int .u32 y, .string s] w fun e w' => e = .returned (.tuple #[dg x p y q (s.extract 8 n.toNat), .int .i64 0]) ∧ Below w.heap.size w w' := by
  have hs2 : s.size ≤ maxLen := by unfold maxLen; omega
  have HP := hid hp
  have HQ := hid hq
  have HN := hid hn
  have HCc := hid hc
  clear hp hq hn hc
  go_enter Try.func31, Try.ntmps31
  go_wp2_with fail
  obtain ⟨W0, hW0⟩ : ∃ W, (((w.alloc (.cells #[.int .u32 x] 24)).alloc (.cells #[.int .u32 y] 24)).alloc (.cells #[.string s] 9)).alloc (.cells #[.int .u32 0, .int .u16 0, .int .u32 0, .int .u16 0, .string ⟨#[]⟩] 46) = W := ⟨_, rfl⟩
  have b0 : w.heap.size < W0.heap.size := by rw [← hW0]; simp only [World.size_alloc]; omega
  have k0 : W0.cell? ⟨w.heap.size, 0, none⟩ = some (.int .u32 x) := by rw [← hW0]; exact cell_alloc_l _ (cell_alloc_l _ (cell_alloc_l _ (cell_new_at _ _ _ _ _ _ (by simp) rfl)))
  have b1 : w.heap.size + 1 < W0.heap.size := by rw [← hW0]; simp only [World.size_alloc]; omega
  have k1 : W0.cell? ⟨w.heap.size + 1, 0, none⟩ = some (.int .u32 y) := by rw [← hW0]; exact cell_alloc_l _ (cell_alloc_l _ (cell_new_at _ _ _ _ _ _ (by simp) rfl))
  have b2 : w.heap.size + 1 + 1 < W0.heap.size := by rw [← hW0]; simp only [World.size_alloc]; omega
  have k2 : W0.cell? ⟨w.heap.size + 1 + 1, 0, none⟩ = some (.string s) := by rw [← hW0]; exact cell_alloc_l _ (cell_new_at _ _ _ _ _ _ (by simp) rfl)
  have b3 : w.heap.size + 1 + 1 + 1 < W0.heap.size := by rw [← hW0]; simp only [World.size_alloc]; omega
  have k3 : W0.cell? ⟨w.heap.size + 1 + 1 + 1, 0, none⟩ = some (.int .u32 0) := by rw [← hW0]; exact cell_new_at _ _ _ _ _ _ (by simp) rfl
  have k4 : W0.cell? ⟨w.heap.size + 1 + 1 + 1, 1, none⟩ = some (.int .u16 0) := by rw [← hW0]; exact cell_new_at _ _ _ _ _ _ (by simp) rfl
  have k5 : W0.cell? ⟨w.heap.size + 1 + 1 + 1, 2, none⟩ = some (.int .u32 0) := by rw [← hW0]; exact cell_new_at _ _ _ _ _ _ (by simp) rfl
  have k6 : W0.cell? ⟨w.heap.size + 1 + 1 + 1, 3, none⟩ = some (.int .u16 0) := by rw [← hW0]; exact cell_new_at _ _ _ _ _ _ (by simp) rfl
  have k7 : W0.cell? ⟨w.heap.size + 1 + 1 + 1, 4, none⟩ = some (.string ⟨#[]⟩) := by rw [← hW0]; exact cell_new_at _ _ _ _ _ _ (by simp) rfl
  have fz0 : W0.frozen? ⟨w.heap.size + 1 + 1 + 1, 0, none⟩ = false := by rw [← hW0]; exact frozen_new_at _ _ _ _ _ (by simp only [World.size_alloc])
  have fz1 : W0.frozen? ⟨w.heap.size + 1 + 1 + 1, 1, none⟩ = false := by rw [← hW0]; exact frozen_new_at _ _ _ _ _ (by simp only [World.size_alloc])
  have fz2 : W0.frozen? ⟨w.heap.size + 1 + 1 + 1, 2, none⟩ = false := by rw [← hW0]; exact frozen_new_at _ _ _ _ _ (by simp only [World.size_alloc])
  have fz3 : W0.frozen? ⟨w.heap.size + 1 + 1 + 1, 3, none⟩ = false := by rw [← hW0]; exact frozen_new_at _ _ _ _ _ (by simp only [World.size_alloc])
  have fz4 : W0.frozen? ⟨w.heap.size + 1 + 1 + 1, 4, none⟩ = false := by rw [← hW0]; exact frozen_new_at _ _ _ _ _ (by simp only [World.size_alloc])
  have HW_W0 := hid (show Below w.heap.size w W0 by rw [← hW0]; exact below_new (below_new (below_new (below_new (Below.refl _ _) _) _) _) _)
  rw [hW0]
  clear hW0
  have HB := Below.refl W0.heap.size W0
  refine (Calls.since HB (two_any s 0 _ hs2 (by decide))).mono ?_; clear HB
  rw [HP.out]
  rintro e w1 ⟨rfl, HB⟩
  have k2_w1 := cell_stays HB b2 k2
  go_wp2_with fail
  clear k2_w1
  refine (Calls.since HB (two_any s 2 _ hs2 (by decide))).mono ?_; clear HB
  rw [HQ.out]
  rintro e w2 ⟨rfl, HB⟩
  have k2_w2 := cell_stays HB b2 k2
  go_wp2_with fail
  clear k2_w2
  refine (Calls.since HB (two_any s 4 _ hs2 (by decide))).mono ?_; clear HB
  rw [HN.out]
  rintro e w3 ⟨rfl, HB⟩
  have k2_w3 := cell_stays HB b2 k2
  go_wp2_with fail
  clear k2_w3
  refine (Calls.since HB (two_any s 6 _ hs2 (by decide))).mono ?_; clear HB
  rw [HCc.out]
  rintro e w4 ⟨rfl, HB⟩
  have k2_w4 := cell_stays HB b2 k2
  go_wp2_with fail
  obtain ⟨W5, hW5⟩ : ∃ W, ((w4.alloc (.cells #[.int .u16 c] 23)).alloc (.cells #[.int .i64 n] 3)).alloc (.cells #[.func (.func 51) #[] #[.pointer (some ⟨w.heap.size + 1 + 1, 0, none⟩)], .int .i64 10, .func (.func 52) #[] #[.pointer (some ⟨w4.heap.size + 1, 0, none⟩)], .int .i64 8, .func (.func 53) #[] #[.pointer (some ⟨w.heap.size + 1 + 1, 0, none⟩), .pointer (some ⟨w4.heap.size + 1, 0, none⟩)], .int .i64 10, .func (.func 54) #[] #[.pointer (some ⟨w4.heap.size + 1, 0, none⟩)], .int .i64 4, .func (.func 55) #[] #[.pointer (some ⟨w4.heap.size, 0, none⟩), .pointer (some ⟨w.heap.size, 0, none⟩), .pointer (some ⟨w.heap.size + 1, 0, none⟩), .pointer (some ⟨w4.heap.size + 1, 0, none⟩), .pointer (some ⟨w.heap.size + 1 + 1, 0, none⟩)], .int .i64 101] 85) = W := ⟨_, rfl⟩
  have HX : Below W0.heap.size W0 W5 := by rw [← hW5]; exact below_new (below_new (below_new (HB) _) _) _
  have b0' : w.heap.size < W5.heap.size := Nat.lt_of_lt_of_le b0 HX.size
  have b1' : w.heap.size + 1 < W5.heap.size := Nat.lt_of_lt_of_le b1 HX.size
  have b2' : w.heap.size + 1 + 1 < W5.heap.size := Nat.lt_of_lt_of_le b2 HX.size
  have b3' : w.heap.size + 1 + 1 + 1 < W5.heap.size := Nat.lt_of_lt_of_le b3 HX.size
  have k0' := cell_stays HX b0 k0
  have k1' := cell_stays HX b1 k1
  have k2' := cell_stays HX b2 k2
  have k3' := cell_stays HX b3 k3
  have k4' := cell_stays HX b3 k4
  have k5' := cell_stays HX b3 k5
  have k6' := cell_stays HX b3 k6
  have k7' := cell_stays HX b3 k7
  have fz0' := frozen_stays HX b3 fz0
  have fz1' := frozen_stays HX b3 fz1
  have fz2' := frozen_stays HX b3 fz2
  have fz3' := frozen_stays HX b3 fz3
  have fz4' := frozen_stays HX b3 fz4
  have HW_W5 := hid (HW_W0.out.trans (HX.mono HW_W0.out.size))
  clear HX k0 k1 k2 k3 k4 k5 k6 k7 fz0 fz1 fz2 fz3 fz4 b0 b1 b2 b3 HW_W0
  have b0 := b0'
  have b1 := b1'
  have b2 := b2'
  have b3 := b3'
  have k0 := k0'
  have k1 := k1'
  have k2 := k2'
  have k3 := k3'
  have k4 := k4'
  have k5 := k5'
  have k6 := k6'
  have k7 := k7'
  have fz0 := fz0'
  have fz1 := fz1'
  have fz2 := fz2'
  have fz3 := fz3'
  have fz4 := fz4'
  clear fz0' fz1' fz2' fz3' fz4'
  clear b0' b1' b2' b3' k0' k1' k2' k3' k4' k5' k6' k7'
  have b4 : w4.heap.size < W5.heap.size := by rw [← hW5]; simp only [World.size_alloc]; omega
  have k8 : W5.cell? ⟨w4.heap.size, 0, none⟩ = some (.int .u16 c) := by rw [← hW5]; exact cell_alloc_l _ (cell_alloc_l _ (cell_new_at _ _ _ _ _ _ (by simp) rfl))
  have b5 : w4.heap.size + 1 < W5.heap.size := by rw [← hW5]; simp only [World.size_alloc]; omega
  have k9 : W5.cell? ⟨w4.heap.size + 1, 0, none⟩ = some (.int .i64 n) := by rw [← hW5]; exact cell_alloc_l _ (cell_new_at _ _ _ _ _ _ (by simp) rfl)
  have b6 : w4.heap.size + 1 + 1 < W5.heap.size := by rw [← hW5]; simp only [World.size_alloc]; omega
  have k10 : W5.cell? ⟨w4.heap.size + 1 + 1, 0, none⟩ = some (.func (.func 51) #[] #[.pointer (some ⟨w.heap.size + 1 + 1, 0, none⟩)]) := by rw [← hW5]; exact cell_new_at _ _ _ _ _ _ (by simp) rfl
  have k11 : W5.cell? ⟨w4.heap.size + 1 + 1, 1, none⟩ = some (.int .i64 10) := by rw [← hW5]; exact cell_new_at _ _ _ _ _ _ (by simp) rfl
  have k12 : W5.cell? ⟨w4.heap.size + 1 + 1, 2, none⟩ = some (.func (.func 52) #[] #[.pointer (some ⟨w4.heap.size + 1, 0, none⟩)]) := by rw [← hW5]; exact cell_new_at _ _ _ _ _ _ (by simp) rfl
  have k13 : W5.cell? ⟨w4.heap.size + 1 + 1, 3, none⟩ = some (.int .i64 8) := by rw [← hW5]; exact cell_new_at _ _ _ _ _ _ (by simp) rfl
  have k14 : W5.cell? ⟨w4.heap.size + 1 + 1, 4, none⟩ = some (.func (.func 53) #[] #[.pointer (some ⟨w.heap.size + 1 + 1, 0, none⟩), .pointer (some ⟨w4.heap.size + 1, 0, none⟩)]) := by rw [← hW5]; exact cell_new_at _ _ _ _ _ _ (by simp) rfl
  have k15 : W5.cell? ⟨w4.heap.size + 1 + 1, 5, none⟩ = some (.int .i64 10) := by rw [← hW5]; exact cell_new_at _ _ _ _ _ _ (by simp) rfl
  have k16 : W5.cell? ⟨w4.heap.size + 1 + 1, 6, none⟩ = some (.func (.func 54) #[] #[.pointer (some ⟨w4.heap.size + 1, 0, none⟩)]) := by rw [← hW5]; exact cell_new_at _ _ _ _ _ _ (by simp) rfl
  have k17 : W5.cell? ⟨w4.heap.size + 1 + 1, 7, none⟩ = some (.int .i64 4) := by rw [← hW5]; exact cell_new_at _ _ _ _ _ _ (by simp) rfl
  have k18 : W5.cell? ⟨w4.heap.size + 1 + 1, 8, none⟩ = some (.func (.func 55) #[] #[.pointer (some ⟨w4.heap.size, 0, none⟩), .pointer (some ⟨w.heap.size, 0, none⟩), .pointer (some ⟨w.heap.size + 1, 0, none⟩), .pointer (some ⟨w4.heap.size + 1, 0, none⟩), .pointer (some ⟨w.heap.size + 1 + 1, 0, none⟩)]) := by rw [← hW5]; exact cell_new_at _ _ _ _ _ _ (by simp) rfl
  have k19 : W5.cell? ⟨w4.heap.size + 1 + 1, 9, none⟩ = some (.int .i64 101) := by rw [← hW5]; exact cell_new_at _ _ _ _ _ _ (by simp) rfl
  rw [hW5]
  clear hW5
  have HB := Below.refl W5.heap.size W5
  refine wp_loop_rounds 6 ?_
  have t1 : w4.heap.size + 1 + 1 < W5.heap.size + 1 := by omega
  have t2 : w4.heap.size + 1 + 1 < W5.heap.size + 1 + 1 := by omega
  have t3 : w4.heap.size + 1 + 1 < W5.heap.size + 1 + 1 + 1 := by omega
  have t4 : w4.heap.size + 1 + 1 < W5.heap.size + 1 + 1 + 1 + 1 := by omega
  have t5 : w4.heap.size + 1 + 1 < W5.heap.size + 1 + 1 + 1 + 1 + 1 := by omega
  rw [rounds_succ]
  go_wp2_with fail
  refine (udpD1 _ s _ (cell_alloc_l _ (k2))).mono ?_
  rintro e w9 ⟨rfl, rfl⟩
  go_wp2_with fail
  rw [rounds_succ]
  go_wp2_with fail
  refine (udpD2 _ n _ (cell_alloc_l _ (cell_alloc_l _ (k9)))).mono ?_
  rintro e w9 ⟨rfl, rfl⟩
  go_wp2_with fail
  rw [rounds_succ]
  go_wp2_with fail
  refine (udpD3 _ _ s n _ (cell_alloc_l _ (cell_alloc_l _ (cell_alloc_l _ (k2)))) (cell_alloc_l _ (cell_alloc_l _ (cell_alloc_l _ (k9))))).mono ?_
  rintro e w9 ⟨rfl, rfl⟩
  go_wp2_with fail
  rw [rounds_succ]
  go_wp2_with fail
  refine (udpD4 _ n _ (cell_alloc_l _ (cell_alloc_l _ (cell_alloc_l _ (cell_alloc_l _ (k9)))))).mono ?_
  rintro e w9 ⟨rfl, rfl⟩
  go_wp2_with fail
  rw [rounds_succ]
  go_wp2_with fail
  obtain ⟨W6, hW6⟩ : ∃ W, ((((W5.alloc (.cells #[.func (.func 51) #[] #[.pointer (some ⟨w.heap.size + 1 + 1, 0, none⟩)], .int .i64 10] 85)).alloc (.cells #[.func (.func 52) #[] #[.pointer (some ⟨w4.heap.size + 1, 0, none⟩)], .int .i64 8] 85)).alloc (.cells #[.func (.func 53) #[] #[.pointer (some ⟨w.heap.size + 1 + 1, 0, none⟩), .pointer (some ⟨w4.heap.size + 1, 0, none⟩)], .int .i64 10] 85)).alloc (.cells #[.func (.func 54) #[] #[.pointer (some ⟨w4.heap.size + 1, 0, none⟩)], .int .i64 4] 85)).alloc (.cells #[.func (.func 55) #[] #[.pointer (some ⟨w4.heap.size, 0, none⟩), .pointer (some ⟨w.heap.size, 0, none⟩), .pointer (some ⟨w.heap.size + 1, 0, none⟩), .pointer (some ⟨w4.heap.size + 1, 0, none⟩), .pointer (some ⟨w.heap.size + 1 + 1, 0, none⟩)], .int .i64 101] 85) = W := ⟨_, rfl⟩
  have HX : Below W5.heap.size W5 W6 := by rw [← hW6]; exact below_new (below_new (below_new (below_new (below_new (HB) _) _) _) _) _
  have b0' : w.heap.size < W6.heap.size := Nat.lt_of_lt_of_le b0 HX.size
  have b1' : w.heap.size + 1 < W6.heap.size := Nat.lt_of_lt_of_le b1 HX.size
  have b2' : w.heap.size + 1 + 1 < W6.heap.size := Nat.lt_of_lt_of_le b2 HX.size
  have b3' : w.heap.size + 1 + 1 + 1 < W6.heap.size := Nat.lt_of_lt_of_le b3 HX.size
  have b4' : w4.heap.size < W6.heap.size := Nat.lt_of_lt_of_le b4 HX.size
  have b5' : w4.heap.size + 1 < W6.heap.size := Nat.lt_of_lt_of_le b5 HX.size
  have b6' : w4.heap.size + 1 + 1 < W6.heap.size := Nat.lt_of_lt_of_le b6 HX.size
  have k0' := cell_stays HX b0 k0
  have k1' := cell_stays HX b1 k1
  have k2' := cell_stays HX b2 k2
  have k3' := cell_stays HX b3 k3
  have k4' := cell_stays HX b3 k4
  have k5' := cell_stays HX b3 k5
  have k6' := cell_stays HX b3 k6
  have k7' := cell_stays HX b3 k7
  have k8' := cell_stays HX b4 k8
  have k9' := cell_stays HX b5 k9
  have k10' := cell_stays HX b6 k10
  have k11' := cell_stays HX b6 k11
  have k12' := cell_stays HX b6 k12
  have k13' := cell_stays HX b6 k13
  have k14' := cell_stays HX b6 k14
  have k15' := cell_stays HX b6 k15
  have k16' := cell_stays HX b6 k16
  have k17' := cell_stays HX b6 k17
  have k18' := cell_stays HX b6 k18
  have k19' := cell_stays HX b6 k19
  have fz0' := frozen_stays HX b3 fz0
  have fz1' := frozen_stays HX b3 fz1
  have fz2' := frozen_stays HX b3 fz2
  have fz3' := frozen_stays HX b3 fz3
  have fz4' := frozen_stays HX b3 fz4
  have HW_W6 := hid (HW_W5.out.trans (HX.mono HW_W5.out.size))
  clear HX k0 k1 k2 k3 k4 k5 k6 k7 k8 k9 k10 k11 k12 k13 k14 k15 k16 k17 k18 k19 fz0 fz1 fz2 fz3 fz4 b0 b1 b2 b3 b4 b5 b6 HW_W5
  have b0 := b0'
  have b1 := b1'
  have b2 := b2'
  have b3 := b3'
  have b4 := b4'
  have b5 := b5'
  have b6 := b6'
  have k0 := k0'
  have k1 := k1'
  have k2 := k2'
  have k3 := k3'
  have k4 := k4'
  have k5 := k5'
  have k6 := k6'
  have k7 := k7'
  have k8 := k8'
  have k9 := k9'
  have k10 := k10'
  have k11 := k11'
  have k12 := k12'
  have k13 := k13'
  have k14 := k14'
  have k15 := k15'
  have k16 := k16'
  have k17 := k17'
  have k18 := k18'
  have k19 := k19'
  have fz0 := fz0'
  have fz1 := fz1'
  have fz2 := fz2'
  have fz3 := fz3'
  have fz4 := fz4'
  clear fz0' fz1' fz2' fz3' fz4'
  clear b0' b1' b2' b3' b4' b5' b6' k0' k1' k2' k3' k4' k5' k6' k7' k8' k9' k10' k11' k12' k13' k14' k15' k16' k17' k18' k19'
  have b7 : W5.heap.size < W6.heap.size := by rw [← hW6]; simp only [World.size_alloc]; omega
  have k20 : W6.cell? ⟨W5.heap.size, 0, none⟩ = some (.func (.func 51) #[] #[.pointer (some ⟨w.heap.size + 1 + 1, 0, none⟩)]) := by rw [← hW6]; exact cell_alloc_l _ (cell_alloc_l _ (cell_alloc_l _ (cell_alloc_l _ (cell_new_at _ _ _ _ _ _ (by simp) rfl))))
  have k21 : W6.cell? ⟨W5.heap.size, 1, none⟩ = some (.int .i64 10) := by rw [← hW6]; exact cell_alloc_l _ (cell_alloc_l _ (cell_alloc_l _ (cell_alloc_l _ (cell_new_at _ _ _ _ _ _ (by simp) rfl))))
  have b8 : W5.heap.size + 1 < W6.heap.size := by rw [← hW6]; simp only [World.size_alloc]; omega
  have k22 : W6.cell? ⟨W5.heap.size + 1, 0, none⟩ = some (.func (.func 52) #[] #[.pointer (some ⟨w4.heap.size + 1, 0, none⟩)]) := by rw [← hW6]; exact cell_alloc_l _ (cell_alloc_l _ (cell_alloc_l _ (cell_new_at _ _ _ _ _ _ (by simp) rfl)))
  have k23 : W6.cell? ⟨W5.heap.size + 1, 1, none⟩ = some (.int .i64 8) := by rw [← hW6]; exact cell_alloc_l _ (cell_alloc_l _ (cell_alloc_l _ (cell_new_at _ _ _ _ _ _ (by simp) rfl)))
  have b9 : W5.heap.size + 1 + 1 < W6.heap.size := by rw [← hW6]; simp only [World.size_alloc]; omega
  have k24 : W6.cell? ⟨W5.heap.size + 1 + 1, 0, none⟩ = some (.func (.func 53) #[] #[.pointer (some ⟨w.heap.size + 1 + 1, 0, none⟩), .pointer (some ⟨w4.heap.size + 1, 0, none⟩)]) := by rw [← hW6]; exact cell_alloc_l _ (cell_alloc_l _ (cell_new_at _ _ _ _ _ _ (by simp) rfl))
  have k25 : W6.cell? ⟨W5.heap.size + 1 + 1, 1, none⟩ = some (.int .i64 10) := by rw [← hW6]; exact cell_alloc_l _ (cell_alloc_l _ (cell_new_at _ _ _ _ _ _ (by simp) rfl))
  have b10 : W5.heap.size + 1 + 1 + 1 < W6.heap.size := by rw [← hW6]; simp only [World.size_alloc]; omega
  have k26 : W6.cell? ⟨W5.heap.size + 1 + 1 + 1, 0, none⟩ = some (.func (.func 54) #[] #[.pointer (some ⟨w4.heap.size + 1, 0, none⟩)]) := by rw [← hW6]; exact cell_alloc_l _ (cell_new_at _ _ _ _ _ _ (by simp) rfl)
  have k27 : W6.cell? ⟨W5.heap.size + 1 + 1 + 1, 1, none⟩ = some (.int .i64 4) := by rw [← hW6]; exact cell_alloc_l _ (cell_new_at _ _ _ _ _ _ (by simp) rfl)
  have b11 : W5.heap.size + 1 + 1 + 1 + 1 < W6.heap.size := by rw [← hW6]; simp only [World.size_alloc]; omega
  have k28 : W6.cell? ⟨W5.heap.size + 1 + 1 + 1 + 1, 0, none⟩ = some (.func (.func 55) #[] #[.pointer (some ⟨w4.heap.size, 0, none⟩), .pointer (some ⟨w.heap.size, 0, none⟩), .pointer (some ⟨w.heap.size + 1, 0, none⟩), .pointer (some ⟨w4.heap.size + 1, 0, none⟩), .pointer (some ⟨w.heap.size + 1 + 1, 0, none⟩)]) := by rw [← hW6]; exact cell_new_at _ _ _ _ _ _ (by simp) rfl
  have k29 : W6.cell? ⟨W5.heap.size + 1 + 1 + 1 + 1, 1, none⟩ = some (.int .i64 101) := by rw [← hW6]; exact cell_new_at _ _ _ _ _ _ (by simp) rfl
  rw [hW6]
  clear hW6
  have HB := Below.refl W6.heap.size W6
  clear HB
  refine (udpD5_sum _ _ _ _ _ c x y n s _ k8 k0 k1 k9 k2 hcz hx hx2 hy hy2 hn0 (by omega) hs _ hr b4 b0 b1 b5 b2).mono ?_
  rintro e w9 ⟨rfl, HB⟩
  have zk0 := cell_stays HB b0 k0
  have zk1 := cell_stays HB b1 k1
  have zk2 := cell_stays HB b2 k2
  have zk9 := cell_stays HB b5 k9
  have zk29 := cell_stays HB b11 k29
  go_wp2_with fail
  rw [rounds_succ]
  go_wp2_with fail
  have zk3 := cell_stays HB b3 k3
  have zfk3 := frozen_stays HB b3 fz0
  have zk4 := cell_stays HB b3 k4
  have zfk4 := frozen_stays HB b3 fz1
  have zk5 := cell_stays HB b3 k5
  have zfk5 := frozen_stays HB b3 fz2
  have zk6 := cell_stays HB b3 k6
  have zfk6 := frozen_stays HB b3 fz3
  have zk7 := cell_stays HB b3 k7
  have zfk7 := frozen_stays HB b3 fz4
  have HW_9 := hid (HW_W6.out.trans (HB.mono HW_W6.out.size))
  go_wp2_with fail
  go_region
  go_wp2_with fail
  obtain ⟨r0, r1, r2, r3, r4⟩ := set5 (v0 := .int .u32 x) (v1 := .int .u16 p) (v2 := .int .u32 y) (v3 := .int .u16 q) (v4 := .string (s.extract 8 n.toNat)) zk3 zk4 zk5 zk6 zk7
  refine bodyPost_ret (v := .tuple #[dg x p y q (s.extract 8 n.toNat), .int .i64 0]) ?_ rfl ⟨rfl, ?_⟩
  · exact res_dg rfl _ _ _ _ _ _ _ _ _ rfl rfl (cell_drew_l (r0)) (cell_drew_l (r1)) (cell_drew_l (r2)) (cell_drew_l (r3)) (cell_drew_l (r4))
  · with_reducible repeat (first | exact HW_9.out | refine Below.drew ?_ | refine below_new ?_ _ | refine below_drewN ?_ _ | refine below_set ?_ (by omega))
end Go.Proofs.Ytlpeefemffmpmaa
