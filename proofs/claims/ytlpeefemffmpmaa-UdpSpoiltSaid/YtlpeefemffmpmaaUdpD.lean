/- Contract of udp.Decode. -/
import Derived.Test.YtlpeefemffmpmaaUdpC
import Derived.Laws.EntriesVeiled
namespace Go.Proofs.Ytlpeefemffmpmaa
open Go.RowKit
set_option linter.unusedVariables false

set_option maxHeartbeats 2000000 in
set_option maxRecDepth 100000 in
theorem udpDecode_1 (x y p q n c : Int) (s : ByteArray) (w : World) (hs : s.size ≤ 140737488355000) (hx : 0 ≤ x) (hx2 : x < 4294967296) (hy : 0 ≤ y) (hy2 : y < 4294967296) (hp : Sp.num 65536 (Sp.textS s 0 2).data.toList = p) (hq : Sp.num 65536 (Sp.textS s 2 2).data.toList = q) (hn : Sp.num 65536 (Sp.textS s 4 2).data.toList = n) (hc : Sp.num 65536 (Sp.textS s 6 2).data.toList = c) (hn0 : 0 ≤ n) (hn1 : n ≤ 65535) (hc0 : 0 ≤ c) (hc1 : c ≤ 65535) (h1 : (s.size : Int) < 8) :
    Calls Try.prog 31 #[.int .u32 x, .int .u32 y, .string s] w fun e w' => e = .returned (.tuple #[dg 0 0 0 0 ⟨#[]⟩, .int .i64 10]) ∧ Below w.heap.size w w' := by
  have hs2 : s.size ≤ maxLen := by unfold maxLen; omega
  have HP := hid hp
  have HQ := hid hq
  have HN := hid hn
  have HCc := hid hc
  clear hp hq hn hc
  go_enter Try.func31, Try.ntmps31
  go_wp2_with fail
  obtain ⟨W0, hW0⟩ : ∃ W, (((w.alloc (.cells #[.int .u32 x] 24)).alloc (.cells #[.int .u32 y] 24)).alloc (.cells #[.string s] 9)).alloc (.cells #[.int .u32 0, .int .u16 0, .int .u32 0, .int .u16 0, .string ⟨#[]⟩] 46) = W := ⟨_, rfl⟩
  have b0 : w.heap.size < W0.heap.size := by rw [← hW0]; simp only [World.size_alloc]; omega
  have k0 : W0.cell? ⟨w.heap.size, 0, none⟩ = some (.int .u32 x) := by rw [← hW0]; exact cell_alloc_l _ (cell_alloc_l _ (cell_alloc_l _ (cell_new_at _ _ _ _ _ _ (by simp) rfl)))
  have b1 : w.heap.size + 1 < W0.heap.size := by rw [← hW0]; simp only [World.size_alloc]; omega
  have k1 : W0.cell? ⟨w.heap.size + 1, 0, none⟩ = some (.int .u32 y) := by rw [← hW0]; exact cell_alloc_l _ (cell_alloc_l _ (cell_new_at _ _ _ _ _ _ (by simp) rfl))
  have b2 : w.heap.size + 1 + 1 < W0.heap.size := by rw [← hW0]; simp only [World.size_alloc]; omega
  have k2 : W0.cell? ⟨w.heap.size + 1 + 1, 0, none⟩ = some (.string s) := by rw [← hW0]; exact cell_alloc_l _ (cell_new_at _ _ _ _ _ _ (by simp) rfl)
  have b3 : w.heap.size + 1 + 1 + 1 < W0.heap.size := by rw [← hW0]; simp only [World.size_alloc]; omega
  have k3 : W0.cell? ⟨w.heap.size + 1 + 1 + 1, 0, none⟩ = some (.int .u32 0) := by rw [← hW0]; exact cell_new_at _ _ _ _ _ _ (by simp) rfl
  have k4 : W0.cell? ⟨w.heap.size + 1 + 1 + 1, 1, none⟩ = some (.int .u16 0) := by rw [← hW0]; exact cell_new_at _ _ _ _ _ _ (by simp) rfl
  have k5 : W0.cell? ⟨w.heap.size + 1 + 1 + 1, 2, none⟩ = some (.int .u32 0) := by rw [← hW0]; exact cell_new_at _ _ _ _ _ _ (by simp) rfl
  have k6 : W0.cell? ⟨w.heap.size + 1 + 1 + 1, 3, none⟩ = some (.int .u16 0) := by rw [← hW0]; exact cell_new_at _ _ _ _ _ _ (by simp) rfl
  have k7 : W0.cell? ⟨w.heap.size + 1 + 1 + 1, 4, none⟩ = some (.string ⟨#[]⟩) := by rw [← hW0]; exact cell_new_at _ _ _ _ _ _ (by simp) rfl
  have fz0 : W0.frozen? ⟨w.heap.size + 1 + 1 + 1, 0, none⟩ = false := by rw [← hW0]; exact frozen_new_at _ _ _ _ _ (by simp only [World.size_alloc])
  have fz1 : W0.frozen? ⟨w.heap.size + 1 + 1 + 1, 1, none⟩ = false := by rw [← hW0]; exact frozen_new_at _ _ _ _ _ (by simp only [World.size_alloc])
  have fz2 : W0.frozen? ⟨w.heap.size + 1 + 1 + 1, 2, none⟩ = false := by rw [← hW0]; exact frozen_new_at _ _ _ _ _ (by simp only [World.size_alloc])
  have fz3 : W0.frozen? ⟨w.heap.size + 1 + 1 + 1, 3, none⟩ = false := by rw [← hW0]; exact frozen_new_at _ _ _ _ _ (by simp only [World.size_alloc])
  have fz4 : W0.frozen? ⟨w.heap.size + 1 + 1 + 1, 4, none⟩ = false := by rw [← hW0]; exact frozen_new_at _ _ _ _ _ (by simp only [World.size_alloc])
  have HW_W0 := hid (show Below w.heap.size w W0 by rw [← hW0]; exact below_new (below_new (below_new (below_new (Below.refl _ _) _) _) _) _)
  rw [hW0]
  clear hW0
  have HB := Below.refl W0.heap.size W0
  refine (Calls.since HB (two_any s 0 _ hs2 (by decide))).mono ?_; clear HB
  rw [HP.out]
  rintro e w1 ⟨rfl, HB⟩
  have k2_w1 := cell_stays HB b2 k2
  go_wp2_with fail
  clear k2_w1
  refine (Calls.since HB (two_any s 2 _ hs2 (by decide))).mono ?_; clear HB
  rw [HQ.out]
  rintro e w2 ⟨rfl, HB⟩
  have k2_w2 := cell_stays HB b2 k2
  go_wp2_with fail
  clear k2_w2
  refine (Calls.since HB (two_any s 4 _ hs2 (by decide))).mono ?_; clear HB
  rw [HN.out]
  rintro e w3 ⟨rfl, HB⟩
  have k2_w3 := cell_stays HB b2 k2
  go_wp2_with fail
  clear k2_w3
  refine (Calls.since HB (two_any s 6 _ hs2 (by decide))).mono ?_; clear HB
  rw [HCc.out]
  rintro e w4 ⟨rfl, HB⟩
  have k2_w4 := cell_stays HB b2 k2
  go_wp2_with fail
  obtain ⟨W5, hW5⟩ : ∃ W, ((w4.alloc (.cells #[.int .u16 c] 23)).alloc (.cells #[.int .i64 n] 3)).alloc (.cells #[.func (.func 51) #[] #[.pointer (some ⟨w.heap.size + 1 + 1, 0, none⟩)], .int .i64 10, .func (.func 52) #[] #[.pointer (some ⟨w4.heap.size + 1, 0, none⟩)], .int .i64 8, .func (.func 53) #[] #[.pointer (some ⟨w.heap.size + 1 + 1, 0, none⟩), .pointer (some ⟨w4.heap.size + 1, 0, none⟩)], .int .i64 10, .func (.func 54) #[] #[.pointer (some ⟨w4.heap.size + 1, 0, none⟩)], .int .i64 4, .func (.func 55) #[] #[.pointer (some ⟨w4.heap.size, 0, none⟩), .pointer (some ⟨w.heap.size, 0, none⟩), .pointer (some ⟨w.heap.size + 1, 0, none⟩), .pointer (some ⟨w4.heap.size + 1, 0, none⟩), .pointer (some ⟨w.heap.size + 1 + 1, 0, none⟩)], .int .i64 101] 85) = W := ⟨_, rfl⟩
  have HX : Below W0.heap.size W0 W5 := by rw [← hW5]; exact below_new (below_new (below_new (HB) _) _) _
  have b0' : w.heap.size < W5.heap.size := Nat.lt_of_lt_of_le b0 HX.size
  have b1' : w.heap.size + 1 < W5.heap.size := Nat.lt_of_lt_of_le b1 HX.size
  have b2' : w.heap.size + 1 + 1 < W5.heap.size := Nat.lt_of_lt_of_le b2 HX.size
  have b3' : w.heap.size + 1 + 1 + 1 < W5.heap.size := Nat.lt_of_lt_of_le b3 HX.size
  have k0' := cell_stays HX b0 k0
  have k1' := cell_stays HX b1 k1
  have k2' := cell_stays HX b2 k2
  have k3' := cell_stays HX b3 k3
  have k4' := cell_stays HX b3 k4
  have k5' := cell_stays HX b3 k5
  have k6' := cell_stays HX b3 k6
  have k7' := cell_stays HX b3 k7
  have fz0' := frozen_stays HX b3 fz0
  have fz1' := frozen_stays HX b3 fz1
  have fz2' := frozen_stays HX b3 fz2
  have fz3' := frozen_stays HX b3 fz3
  have fz4' := frozen_stays HX b3 fz4
  have HW_W5 := hid (HW_W0.out.trans (HX.mono HW_W0.out.size))
  clear HX k0 k1 k2 k3 k4 k5 k6 k7 fz0 fz1 fz2 fz3 fz4 b0 b1 b2 b3 HW_W0
  have b0 := b0'
  have b1 := b1'
  have b2 := b2'
  have b3 := b3'
  have k0 := k0'
  have k1 := k1'
  have k2 := k2'
  have k3 := k3'
  have k4 := k4'
  have k5 := k5'
  have k6 := k6'
  have k7 := k7'
  have fz0 := fz0'
  have fz1 := fz1'
  have fz2 := fz2'
  have fz3 := fz3'
  have fz4 := fz4'
  clear fz0' fz1' fz2' fz3' fz4'
  clear b0' b1' b2' b3' k0' k1' k2' k3' k4' k5' k6' k7'
  have b4 : w4.heap.size < W5.heap.size := by rw [← hW5]; simp only [World.size_alloc]; omega
  have k8 : W5.cell? ⟨w4.heap.size, 0, none⟩ = some (.int .u16 c) := by rw [← hW5]; exact cell_alloc_l _ (cell_alloc_l _ (cell_new_at _ _ _ _ _ _ (by simp) rfl))
  have b5 : w4.heap.size + 1 < W5.heap.size := by rw [← hW5]; simp only [World.size_alloc]; omega
  have k9 : W5.cell? ⟨w4.heap.size + 1, 0, none⟩ = some (.int .i64 n) := by rw [← hW5]; exact cell_alloc_l _ (cell_new_at _ _ _ _ _ _ (by simp) rfl)
  have b6 : w4.heap.size + 1 + 1 < W5.heap.size := by rw [← hW5]; simp only [World.size_alloc]; omega
  have k10 : W5.cell? ⟨w4.heap.size + 1 + 1, 0, none⟩ = some (.func (.func 51) #[] #[.pointer (some ⟨w.heap.size + 1 + 1, 0, none⟩)]) := by rw [← hW5]; exact cell_new_at _ _ _ _ _ _ (by simp) rfl
  have k11 : W5.cell? ⟨w4.heap.size + 1 + 1, 1, none⟩ = some (.int .i64 10) := by rw [← hW5]; exact cell_new_at _ _ _ _ _ _ (by simp) rfl
  have k12 : W5.cell? ⟨w4.heap.size + 1 + 1, 2, none⟩ = some (.func (.func 52) #[] #[.pointer (some ⟨w4.heap.size + 1, 0, none⟩)]) := by rw [← hW5]; exact cell_new_at _ _ _ _ _ _ (by simp) rfl
  have k13 : W5.cell? ⟨w4.heap.size + 1 + 1, 3, none⟩ = some (.int .i64 8) := by rw [← hW5]; exact cell_new_at _ _ _ _ _ _ (by simp) rfl
  have k14 : W5.cell? ⟨w4.heap.size + 1 + 1, 4, none⟩ = some (.func (.func 53) #[] #[.pointer (some ⟨w.heap.size + 1 + 1, 0, none⟩), .pointer (some ⟨w4.heap.size + 1, 0, none⟩)]) := by rw [← hW5]; exact cell_new_at _ _ _ _ _ _ (by simp) rfl
  have k15 : W5.cell? ⟨w4.heap.size + 1 + 1, 5, none⟩ = some (.int .i64 10) := by rw [← hW5]; exact cell_new_at _ _ _ _ _ _ (by simp) rfl
  have k16 : W5.cell? ⟨w4.heap.size + 1 + 1, 6, none⟩ = some (.func (.func 54) #[] #[.pointer (some ⟨w4.heap.size + 1, 0, none⟩)]) := by rw [← hW5]; exact cell_new_at _ _ _ _ _ _ (by simp) rfl
  have k17 : W5.cell? ⟨w4.heap.size + 1 + 1, 7, none⟩ = some (.int .i64 4) := by rw [← hW5]; exact cell_new_at _ _ _ _ _ _ (by simp) rfl
  have k18 : W5.cell? ⟨w4.heap.size + 1 + 1, 8, none⟩ = some (.func (.func 55) #[] #[.pointer (some ⟨w4.heap.size, 0, none⟩), .pointer (some ⟨w.heap.size, 0, none⟩), .pointer (some ⟨w.heap.size + 1, 0, none⟩), .pointer (some ⟨w4.heap.size + 1, 0, none⟩), .pointer (some ⟨w.heap.size + 1 + 1, 0, none⟩)]) := by rw [← hW5]; exact cell_new_at _ _ _ _ _ _ (by simp) rfl
  have k19 : W5.cell? ⟨w4.heap.size + 1 + 1, 9, none⟩ = some (.int .i64 101) := by rw [← hW5]; exact cell_new_at _ _ _ _ _ _ (by simp) rfl
  rw [hW5]
  clear hW5
  have HB := Below.refl W5.heap.size W5
  refine wp_loop_rounds 1 ?_
  have t1 : w4.heap.size + 1 + 1 < W5.heap.size + 1 := by omega
  have t2 : w4.heap.size + 1 + 1 < W5.heap.size + 1 + 1 := by omega
  have t3 : w4.heap.size + 1 + 1 < W5.heap.size + 1 + 1 + 1 := by omega
  have t4 : w4.heap.size + 1 + 1 < W5.heap.size + 1 + 1 + 1 + 1 := by omega
  have t5 : w4.heap.size + 1 + 1 < W5.heap.size + 1 + 1 + 1 + 1 + 1 := by omega
  rw [rounds_succ]
  go_wp2_with fail
  refine (udpD1 _ s _ (cell_alloc_l _ (k2))).mono ?_
  rintro e w9 ⟨rfl, rfl⟩
  go_wp2_with fail
  go_region
  go_wp2_with fail
  obtain ⟨r0, r1, r2, r3, r4⟩ := set5 (v0 := .int .u32 0) (v1 := .int .u16 0) (v2 := .int .u32 0) (v3 := .int .u16 0) (v4 := .string ⟨#[]⟩) k3 k4 k5 k6 k7
  refine bodyPost_ret (v := .tuple #[dg 0 0 0 0 ⟨#[]⟩, .int .i64 10]) ?_ rfl ⟨rfl, ?_⟩
  · exact res_dg rfl _ _ _ _ _ _ _ _ _ rfl rfl (cell_drew_l (cell_alloc_l _ (r0))) (cell_drew_l (cell_alloc_l _ (r1))) (cell_drew_l (cell_alloc_l _ (r2))) (cell_drew_l (cell_alloc_l _ (r3))) (cell_drew_l (cell_alloc_l _ (r4)))
  · with_reducible repeat (first | exact HW_W5.out | refine Below.drew ?_ | refine below_new ?_ _ | refine below_drewN ?_ _ | refine below_set ?_ (by omega))

set_option maxHeartbeats 2000000 in
set_option maxRecDepth 100000 in
theorem udpDecode_2 (x y p q n c : Int) (s : ByteArray) (w : World) (hs : s.size ≤ 140737488355000) (hx : 0 ≤ x) (hx2 : x < 4294967296) (hy : 0 ≤ y) (hy2 : y < 4294967296) (hp : Sp.num 65536 (Sp.textS s 0 2).data.toList = p) (hq : Sp.num 65536 (Sp.textS s 2 2).data.toList = q) (hn : Sp.num 65536 (Sp.textS s 4 2).data.toList = n) (hc : Sp.num 65536 (Sp.textS s 6 2).data.toList = c) (hn0 : 0 ≤ n) (hn1 : n ≤ 65535) (hc0 : 0 ≤ c) (hc1 : c ≤ 65535) (h1 : (8 : Int) ≤ s.size) (h2 : n < 8) :
    Calls Try.prog 31 #[.int .u32 x, .int .u32 y, .string s] w fun e w' => e = .returned (.tuple #[dg 0 0 0 0 ⟨#[]⟩, .int .i64 8]) ∧ Below w.heap.size w w' := by
  have hs2 : s.size ≤ maxLen := by unfold maxLen; omega
  have HP := hid hp
  have HQ := hid hq
  have HN := hid hn
  have HCc := hid hc
  clear hp hq hn hc
  go_enter Try.func31, Try.ntmps31
  go_wp2_with fail
  obtain ⟨W0, hW0⟩ : ∃ W, (((w.alloc (.cells #[.int .u32 x] 24)).alloc (.cells #[.int .u32 y] 24)).alloc (.cells #[.string s] 9)).alloc (.cells #[.int .u32 0, .int .u16 0, .int .u32 0, .int .u16 0, .string ⟨#[]⟩] 46) = W := ⟨_, rfl⟩
  have b0 : w.heap.size < W0.heap.size := by rw [← hW0]; simp only [World.size_alloc]; omega
  have k0 : W0.cell? ⟨w.heap.size, 0, none⟩ = some (.int .u32 x) := by rw [← hW0]; exact cell_alloc_l _ (cell_alloc_l _ (cell_alloc_l _ (cell_new_at _ _ _ _ _ _ (by simp) rfl)))
  have b1 : w.heap.size + 1 < W0.heap.size := by rw [← hW0]; simp only [World.size_alloc]; omega
  have k1 : W0.cell? ⟨w.heap.size + 1, 0, none⟩ = some (.int .u32 y) := by rw [← hW0]; exact cell_alloc_l _ (cell_alloc_l _ (cell_new_at _ _ _ _ _ _ (by simp) rfl))
  have b2 : w.heap.size + 1 + 1 < W0.heap.size := by rw [← hW0]; simp only [World.size_alloc]; omega
  have k2 : W0.cell? ⟨w.heap.size + 1 + 1, 0, none⟩ = some (.string s) := by rw [← hW0]; exact cell_alloc_l _ (cell_new_at _ _ _ _ _ _ (by simp) rfl)
  have b3 : w.heap.size + 1 + 1 + 1 < W0.heap.size := by rw [← hW0]; simp only [World.size_alloc]; omega
  have k3 : W0.cell? ⟨w.heap.size + 1 + 1 + 1, 0, none⟩ = some (.int .u32 0) := by rw [← hW0]; exact cell_new_at _ _ _ _ _ _ (by simp) rfl
  have k4 : W0.cell? ⟨w.heap.size + 1 + 1 + 1, 1, none⟩ = some (.int .u16 0) := by rw [← hW0]; exact cell_new_at _ _ _ _ _ _ (by simp) rfl
  have k5 : W0.cell? ⟨w.heap.size + 1 + 1 + 1, 2, none⟩ = some (.int .u32 0) := by rw [← hW0]; exact cell_new_at _ _ _ _ _ _ (by simp) rfl
  have k6 : W0.cell? ⟨w.heap.size + 1 + 1 + 1, 3, none⟩ = some (.int .u16 0) := by rw [← hW0]; exact cell_new_at _ _ _ _ _ _ (by simp) rfl
  have k7 : W0.cell? ⟨w.heap.size + 1 + 1 + 1, 4, none⟩ = some (.string ⟨#[]⟩) := by rw [← hW0]; exact cell_new_at _ _ _ _ _ _ (by simp) rfl
  have fz0 : W0.frozen? ⟨w.heap.size + 1 + 1 + 1, 0, none⟩ = false := by rw [← hW0]; exact frozen_new_at _ _ _ _ _ (by simp only [World.size_alloc])
  have fz1 : W0.frozen? ⟨w.heap.size + 1 + 1 + 1, 1, none⟩ = false := by rw [← hW0]; exact frozen_new_at _ _ _ _ _ (by simp only [World.size_alloc])
  have fz2 : W0.frozen? ⟨w.heap.size + 1 + 1 + 1, 2, none⟩ = false := by rw [← hW0]; exact frozen_new_at _ _ _ _ _ (by simp only [World.size_alloc])
  have fz3 : W0.frozen? ⟨w.heap.size + 1 + 1 + 1, 3, none⟩ = false := by rw [← hW0]; exact frozen_new_at _ _ _ _ _ (by simp only [World.size_alloc])
  have fz4 : W0.frozen? ⟨w.heap.size + 1 + 1 + 1, 4, none⟩ = false := by rw [← hW0]; exact frozen_new_at _ _ _ _ _ (by simp only [World.size_alloc])
  have HW_W0 := hid (show Below w.heap.size w W0 by rw [← hW0]; exact below_new (below_new (below_new (below_new (Below.refl _ _) _) _) _) _)
  rw [hW0]
  clear hW0
  have HB := Below.refl W0.heap.size W0
  refine (Calls.since HB (two_any s 0 _ hs2 (by decide))).mono ?_; clear HB
  rw [HP.out]
  rintro e w1 ⟨rfl, HB⟩
  have k2_w1 := cell_stays HB b2 k2
  go_wp2_with fail
  clear k2_w1
  refine (Calls.since HB (two_any s 2 _ hs2 (by decide))).mono ?_; clear HB
  rw [HQ.out]
  rintro e w2 ⟨rfl, HB⟩
  have k2_w2 := cell_stays HB b2 k2
  go_wp2_with fail
  clear k2_w2
  refine (Calls.since HB (two_any s 4 _ hs2 (by decide))).mono ?_; clear HB
  rw [HN.out]
  rintro e w3 ⟨rfl, HB⟩
  have k2_w3 := cell_stays HB b2 k2
  go_wp2_with fail
  clear k2_w3
  refine (Calls.since HB (two_any s 6 _ hs2 (by decide))).mono ?_; clear HB
  rw [HCc.out]
  rintro e w4 ⟨rfl, HB⟩
  have k2_w4 := cell_stays HB b2 k2
  go_wp2_with fail
  obtain ⟨W5, hW5⟩ : ∃ W, ((w4.alloc (.cells #[.int .u16 c] 23)).alloc (.cells #[.int .i64 n] 3)).alloc (.cells #[.func (.func 51) #[] #[.pointer (some ⟨w.heap.size + 1 + 1, 0, none⟩)], .int .i64 10, .func (.func 52) #[] #[.pointer (some ⟨w4.heap.size + 1, 0, none⟩)], .int .i64 8, .func (.func 53) #[] #[.pointer (some ⟨w.heap.size + 1 + 1, 0, none⟩), .pointer (some ⟨w4.heap.size + 1, 0, none⟩)], .int .i64 10, .func (.func 54) #[] #[.pointer (some ⟨w4.heap.size + 1, 0, none⟩)], .int .i64 4, .func (.func 55) #[] #[.pointer (some ⟨w4.heap.size, 0, none⟩), .pointer (some ⟨w.heap.size, 0, none⟩), .pointer (some ⟨w.heap.size + 1, 0, none⟩), .pointer (some ⟨w4.heap.size + 1, 0, none⟩), .pointer (some ⟨w.heap.size + 1 + 1, 0, none⟩)], .int .i64 101] 85) = W := ⟨_, rfl⟩
  have HX : Below W0.heap.size W0 W5 := by rw [← hW5]; exact below_new (below_new (below_new (HB) _) _) _
  have b0' : w.heap.size < W5.heap.size := Nat.lt_of_lt_of_le b0 HX.size
  have b1' : w.heap.size + 1 < W5.heap.size := Nat.lt_of_lt_of_le b1 HX.size
  have b2' : w.heap.size + 1 + 1 < W5.heap.size := Nat.lt_of_lt_of_le b2 HX.size
  have b3' : w.heap.size + 1 + 1 + 1 < W5.heap.size := Nat.lt_of_lt_of_le b3 HX.size
  have k0' := cell_stays HX b0 k0
  have k1' := cell_stays HX b1 k1
  have k2' := cell_stays HX b2 k2
  have k3' := cell_stays HX b3 k3
  have k4' := cell_stays HX b3 k4
  have k5' := cell_stays HX b3 k5
  have k6' := cell_stays HX b3 k6
  have k7' := cell_stays HX b3 k7
  have fz0' := frozen_stays HX b3 fz0
  have fz1' := frozen_stays HX b3 fz1
  have fz2' := frozen_stays HX b3 fz2
  have fz3' := frozen_stays HX b3 fz3
  have fz4' := frozen_stays HX b3 fz4
  have HW_W5 := hid (HW_W0.out.trans (HX.mono HW_W0.out.size))
  clear HX k0 k1 k2 k3 k4 k5 k6 k7 fz0 fz1 fz2 fz3 fz4 b0 b1 b2 b3 HW_W0
  have b0 := b0'
  have b1 := b1'
  have b2 := b2'
  have b3 := b3'
  have k0 := k0'
  have k1 := k1'
  have k2 := k2'
  have k3 := k3'
  have k4 := k4'
  have k5 := k5'
  have k6 := k6'
  have k7 := k7'
  have fz0 := fz0'
  have fz1 := fz1'
  have fz2 := fz2'
  have fz3 := fz3'
  have fz4 := fz4'
  clear fz0' fz1' fz2' fz3' fz4'
  clear b0' b1' b2' b3' k0' k1' k2' k3' k4' k5' k6' k7'
  have b4 : w4.heap.size < W5.heap.size := by rw [← hW5]; simp only [World.size_alloc]; omega
  have k8 : W5.cell? ⟨w4.heap.size, 0, none⟩ = some (.int .u16 c) := by rw [← hW5]; exact cell_alloc_l _ (cell_alloc_l _ (cell_new_at _ _ _ _ _ _ (by simp) rfl))
  have b5 : w4.heap.size + 1 < W5.heap.size := by rw [← hW5]; simp only [World.size_alloc]; omega
  have k9 : W5.cell? ⟨w4.heap.size + 1, 0, none⟩ = some (.int .i64 n) := by rw [← hW5]; exact cell_alloc_l _ (cell_new_at _ _ _ _ _ _ (by simp) rfl)
  have b6 : w4.heap.size + 1 + 1 < W5.heap.size := by rw [← hW5]; simp only [World.size_alloc]; omega
  have k10 : W5.cell? ⟨w4.heap.size + 1 + 1, 0, none⟩ = some (.func (.func 51) #[] #[.pointer (some ⟨w.heap.size + 1 + 1, 0, none⟩)]) := by rw [← hW5]; exact cell_new_at _ _ _ _ _ _ (by simp) rfl
  have k11 : W5.cell? ⟨w4.heap.size + 1 + 1, 1, none⟩ = some (.int .i64 10) := by rw [← hW5]; exact cell_new_at _ _ _ _ _ _ (by simp) rfl
  have k12 : W5.cell? ⟨w4.heap.size + 1 + 1, 2, none⟩ = some (.func (.func 52) #[] #[.pointer (some ⟨w4.heap.size + 1, 0, none⟩)]) := by rw [← hW5]; exact cell_new_at _ _ _ _ _ _ (by simp) rfl
  have k13 : W5.cell? ⟨w4.heap.size + 1 + 1, 3, none⟩ = some (.int .i64 8) := by rw [← hW5]; exact cell_new_at _ _ _ _ _ _ (by simp) rfl
  have k14 : W5.cell? ⟨w4.heap.size + 1 + 1, 4, none⟩ = some (.func (.func 53) #[] #[.pointer (some ⟨w.heap.size + 1 + 1, 0, none⟩), .pointer (some ⟨w4.heap.size + 1, 0, none⟩)]) := by rw [← hW5]; exact cell_new_at _ _ _ _ _ _ (by simp) rfl
  have k15 : W5.cell? ⟨w4.heap.size + 1 + 1, 5, none⟩ = some (.int .i64 10) := by rw [← hW5]; exact cell_new_at _ _ _ _ _ _ (by simp) rfl
  have k16 : W5.cell? ⟨w4.heap.size + 1 + 1, 6, none⟩ = some (.func (.func 54) #[] #[.pointer (some ⟨w4.heap.size + 1, 0, none⟩)]) := by rw [← hW5]; exact cell_new_at _ _ _ _ _ _ (by simp) rfl
  have k17 : W5.cell? ⟨w4.heap.size + 1 + 1, 7, none⟩ = some (.int .i64 4) := by rw [← hW5]; exact cell_new_at _ _ _ _ _ _ (by simp) rfl
  have k18 : W5.cell? ⟨w4.heap.size + 1 + 1, 8, none⟩ = some (.func (.func 55) #[] #[.pointer (some ⟨w4.heap.size, 0, none⟩), .pointer (some ⟨w.heap.size, 0, none⟩), .pointer (some ⟨w.heap.size + 1, 0, none⟩), .pointer (some ⟨w4.heap.size + 1, 0, none⟩), .pointer (some ⟨w.heap.size + 1 + 1, 0, none⟩)]) := by rw [← hW5]; exact cell_new_at _ _ _ _ _ _ (by simp) rfl
  have k19 : W5.cell? ⟨w4.heap.size + 1 + 1, 9, none⟩ = some (.int .i64 101) := by rw [← hW5]; exact cell_new_at _ _ _ _ _ _ (by simp) rfl
  rw [hW5]
  clear hW5
  have HB := Below.refl W5.heap.size W5
  refine wp_loop_rounds 2 ?_
  have t1 : w4.heap.size + 1 + 1 < W5.heap.size + 1 := by omega
  have t2 : w4.heap.size + 1 + 1 < W5.heap.size + 1 + 1 := by omega
  have t3 : w4.heap.size + 1 + 1 < W5.heap.size + 1 + 1 + 1 := by omega
  have t4 : w4.heap.size + 1 + 1 < W5.heap.size + 1 + 1 + 1 + 1 := by omega
  have t5 : w4.heap.size + 1 + 1 < W5.heap.size + 1 + 1 + 1 + 1 + 1 := by omega
  rw [rounds_succ]
  go_wp2_with fail
  refine (udpD1 _ s _ (cell_alloc_l _ (k2))).mono ?_
  rintro e w9 ⟨rfl, rfl⟩
  go_wp2_with fail
  rw [rounds_succ]
  go_wp2_with fail
  refine (udpD2 _ n _ (cell_alloc_l _ (cell_alloc_l _ (k9)))).mono ?_
  rintro e w9 ⟨rfl, rfl⟩
  go_wp2_with fail
  go_region
  go_wp2_with fail
  obtain ⟨r0, r1, r2, r3, r4⟩ := set5 (v0 := .int .u32 0) (v1 := .int .u16 0) (v2 := .int .u32 0) (v3 := .int .u16 0) (v4 := .string ⟨#[]⟩) k3 k4 k5 k6 k7
  refine bodyPost_ret (v := .tuple #[dg 0 0 0 0 ⟨#[]⟩, .int .i64 8]) ?_ rfl ⟨rfl, ?_⟩
  · exact res_dg rfl _ _ _ _ _ _ _ _ _ rfl rfl (cell_drew_l (cell_alloc_l _ (cell_alloc_l _ (r0)))) (cell_drew_l (cell_alloc_l _ (cell_alloc_l _ (r1)))) (cell_drew_l (cell_alloc_l _ (cell_alloc_l _ (r2)))) (cell_drew_l (cell_alloc_l _ (cell_alloc_l _ (r3)))) (cell_drew_l (cell_alloc_l _ (cell_alloc_l _ (r4))))
  · with_reducible repeat (first | exact HW_W5.out | refine Below.drew ?_ | refine below_new ?_ _ | refine below_drewN ?_ _ | refine below_set ?_ (by omega))

set_option maxHeartbeats 2000000 in
set_option maxRecDepth 100000 in
theorem udpDecode_3 (x y p q n c : Int) (s : ByteArray) (w : World) (hs : s.size ≤ 140737488355000) (hx : 0 ≤ x) (hx2 : x < 4294967296) (hy : 0 ≤ y) (hy2 : y < 4294967296) (hp : Sp.num 65536 (Sp.textS s 0 2).data.toList = p) (hq : Sp.num 65536 (Sp.textS s 2 2).data.toList = q) (hn : Sp.num 65536 (Sp.textS s 4 2).data.toList = n) (hc : Sp.num 65536 (Sp.textS s 6 2).data.toList = c) (hn0 : 0 ≤ n) (hn1 : n ≤ 65535) (hc0 : 0 ≤ c) (hc1 : c ≤ 65535) (h1 : (8 : Int) ≤ s.size) (h2 : 8 ≤ n) (h3 : (s.size : Int) < n) :
    Calls Try.prog 31 #[.int .u32 x, .int .u32 y, .string s] w fun e w' => e = .returned (.tuple #[dg 0 0 0 0 ⟨#[]⟩, .int .i64 10]) ∧ Below w.heap.size w w' := by
  have hs2 : s.size ≤ maxLen := by unfold maxLen; omega
  have HP := hid hp
  have HQ := hid hq
  have HN := hid hn
  have HCc := hid hc
  clear hp hq hn hc
  go_enter Try.func31, Try.ntmps31
  go_wp2_with fail
  obtain ⟨W0, hW0⟩ : ∃ W, (((w.alloc (.cells #[.int .u32 x] 24)).alloc (.cells #[.int .u32 y] 24)).alloc (.cells #[.string s] 9)).alloc (.cells #[.int .u32 0, .int .u16 0, .int .u32 0, .int .u16 0, .string ⟨#[]⟩] 46) = W := ⟨_, rfl⟩
  have b0 : w.heap.size < W0.heap.size := by rw [← hW0]; simp only [World.size_alloc]; omega
  have k0 : W0.cell? ⟨w.heap.size, 0, none⟩ = some (.int .u32 x) := by rw [← hW0]; exact cell_alloc_l _ (cell_alloc_l _ (cell_alloc_l _ (cell_new_at _ _ _ _ _ _ (by simp) rfl)))
  have b1 : w.heap.size + 1 < W0.heap.size := by rw [← hW0]; simp only [World.size_alloc]; omega
  have k1 : W0.cell? ⟨w.heap.size + 1, 0, none⟩ = some (.int .u32 y) := by rw [← hW0]; exact cell_alloc_l _ (cell_alloc_l _ (cell_new_at _ _ _ _ _ _ (by simp) rfl))
  have b2 : w.heap.size + 1 + 1 < W0.heap.size := by rw [← hW0]; simp only [World.size_alloc]; omega
  have k2 : W0.cell? ⟨w.heap.size + 1 + 1, 0, none⟩ = some (.string s) := by rw [← hW0]; exact cell_alloc_l _ (cell_new_at _ _ _ _ _ _ (by simp) rfl)
  have b3 : w.heap.size + 1 + 1 + 1 < W0.heap.size := by rw [← hW0]; simp only [World.size_alloc]; omega
  have k3 : W0.cell? ⟨w.heap.size + 1 + 1 + 1, 0, none⟩ = some (.int .u32 0) := by rw [← hW0]; exact cell_new_at _ _ _ _ _ _ (by simp) rfl
  have k4 : W0.cell? ⟨w.heap.size + 1 + 1 + 1, 1, none⟩ = some (.int .u16 0) := by rw [← hW0]; exact cell_new_at _ _ _ _ _ _ (by simp) rfl
  have k5 : W0.cell? ⟨w.heap.size + 1 + 1 + 1, 2, none⟩ = some (.int .u32 0) := by rw [← hW0]; exact cell_new_at _ _ _ _ _ _ (by simp) rfl
  have k6 : W0.cell? ⟨w.heap.size + 1 + 1 + 1, 3, none⟩ = some (.int .u16 0) := by rw [← hW0]; exact cell_new_at _ _ _ _ _ _ (by simp) rfl
  have k7 : W0.cell? ⟨w.heap.size + 1 + 1 + 1, 4, none⟩ = some (.string ⟨#[]⟩) := by rw [← hW0]; exact cell_new_at _ _ _ _ _ _ (by simp) rfl
  have fz0 : W0.frozen? ⟨w.heap.size + 1 + 1 + 1, 0, none⟩ = false := by rw [← hW0]; exact frozen_new_at _ _ _ _ _ (by simp only [World.size_alloc])
  have fz1 : W0.frozen? ⟨w.heap.size + 1 + 1 + 1, 1, none⟩ = false := by rw [← hW0]; exact frozen_new_at _ _ _ _ _ (by simp only [World.size_alloc])
  have fz2 : W0.frozen? ⟨w.heap.size + 1 + 1 + 1, 2, none⟩ = false := by rw [← hW0]; exact frozen_new_at _ _ _ _ _ (by simp only [World.size_alloc])
  have fz3 : W0.frozen? ⟨w.heap.size + 1 + 1 + 1, 3, none⟩ = false := by rw [← hW0]; exact frozen_new_at _ _ _ _ _ (by simp only [World.size_alloc])
  have fz4 : W0.frozen? ⟨w.heap.size + 1 + 1 + 1, 4, none⟩ = false := by rw [← hW0]; exact frozen_new_at _ _ _ _ _ (by simp only [World.size_alloc])
  have HW_W0 := hid (show Below w.heap.size w W0 by rw [← hW0]; exact below_new (below_new (below_new (below_new (Below.refl _ _) _) _) _) _)
  rw [hW0]
  clear hW0
  have HB := Below.refl W0.heap.size W0
  refine (Calls.since HB (two_any s 0 _ hs2 (by decide))).mono ?_; clear HB
  rw [HP.out]
  rintro e w1 ⟨rfl, HB⟩
  have k2_w1 := cell_stays HB b2 k2
  go_wp2_with fail
  clear k2_w1
  refine (Calls.since HB (two_any s 2 _ hs2 (by decide))).mono ?_; clear HB
  rw [HQ.out]
  rintro e w2 ⟨rfl, HB⟩
  have k2_w2 := cell_stays HB b2 k2
  go_wp2_with fail
  clear k2_w2
  refine (Calls.since HB (two_any s 4 _ hs2 (by decide))).mono ?_; clear HB
  rw [HN.out]
  rintro e w3 ⟨rfl, HB⟩
  have k2_w3 := cell_stays HB b2 k2
  go_wp2_with fail
  clear k2_w3
  refine (Calls.since HB (two_any s 6 _ hs2 (by decide))).mono ?_; clear HB
  rw [HCc.out]
  rintro e w4 ⟨rfl, HB⟩
  have k2_w4 := cell_stays HB b2 k2
  go_wp2_with fail
  obtain ⟨W5, hW5⟩ : ∃ W, ((w4.alloc (.cells #[.int .u16 c] 23)).alloc (.cells #[.int .i64 n] 3)).alloc (.cells #[.func (.func 51) #[] #[.pointer (some ⟨w.heap.size + 1 + 1, 0, none⟩)], .int .i64 10, .func (.func 52) #[] #[.pointer (some ⟨w4.heap.size + 1, 0, none⟩)], .int .i64 8, .func (.func 53) #[] #[.pointer (some ⟨w.heap.size + 1 + 1, 0, none⟩), .pointer (some ⟨w4.heap.size + 1, 0, none⟩)], .int .i64 10, .func (.func 54) #[] #[.pointer (some ⟨w4.heap.size + 1, 0, none⟩)], .int .i64 4, .func (.func 55) #[] #[.pointer (some ⟨w4.heap.size, 0, none⟩), .pointer (some ⟨w.heap.size, 0, none⟩), .pointer (some ⟨w.heap.size + 1, 0, none⟩), .pointer (some ⟨w4.heap.size + 1, 0, none⟩), .pointer (some ⟨w.heap.size + 1 + 1, 0, none⟩)], .int .i64 101] 85) = W := ⟨_, rfl⟩
  have HX : Below W0.heap.size W0 W5 := by rw [← hW5]; exact below_new (below_new (below_new (HB) _) _) _
  have b0' : w.heap.size < W5.heap.size := Nat.lt_of_lt_of_le b0 HX.size
  have b1' : w.heap.size + 1 < W5.heap.size := Nat.lt_of_lt_of_le b1 HX.size
  have b2' : w.heap.size + 1 + 1 < W5.heap.size := Nat.lt_of_lt_of_le b2 HX.size
  have b3' : w.heap.size + 1 + 1 + 1 < W5.heap.size := Nat.lt_of_lt_of_le b3 HX.size
  have k0' := cell_stays HX b0 k0
  have k1' := cell_stays HX b1 k1
  have k2' := cell_stays HX b2 k2
  have k3' := cell_stays HX b3 k3
  have k4' := cell_stays HX b3 k4
  have k5' := cell_stays HX b3 k5
  have k6' := cell_stays HX b3 k6
  have k7' := cell_stays HX b3 k7
  have fz0' := frozen_stays HX b3 fz0
  have fz1' := frozen_stays HX b3 fz1
  have fz2' := frozen_stays HX b3 fz2
  have fz3' := frozen_stays HX b3 fz3
  have fz4' := frozen_stays HX b3 fz4
  have HW_W5 := hid (HW_W0.out.trans (HX.mono HW_W0.out.size))
  clear HX k0 k1 k2 k3 k4 k5 k6 k7 fz0 fz1 fz2 fz3 fz4 b0 b1 b2 b3 HW_W0
  have b0 := b0'
  have b1 := b1'
  have b2 := b2'
  have b3 := b3'
  have k0 := k0'
  have k1 := k1'
  have k2 := k2'
  have k3 := k3'
  have k4 := k4'
  have k5 := k5'
  have k6 := k6'
  have k7 := k7'
  have fz0 := fz0'
  have fz1 := fz1'
  have fz2 := fz2'
  have fz3 := fz3'
  have fz4 := fz4'
  clear fz0' fz1' fz2' fz3' fz4'
  clear b0' b1' b2' b3' k0' k1' k2' k3' k4' k5' k6' k7'
  have b4 : w4.heap.size < W5.heap.size := by rw [← hW5]; simp only [World.size_alloc]; omega
  have k8 : W5.cell? ⟨w4.heap.size, 0, none⟩ = some (.int .u16 c) := by rw [← hW5]; exact cell_alloc_l _ (cell_alloc_l _ (cell_new_at _ _ _ _ _ _ (by simp) rfl))
  have b5 : w4.heap.size + 1 < W5.heap.size := by rw [← hW5]; simp only [World.size_alloc]; omega
  have k9 : W5.cell? ⟨w4.heap.size + 1, 0, none⟩ = some (.int .i64 n) := by rw [← hW5]; exact cell_alloc_l _ (cell_new_at _ _ _ _ _ _ (by simp) rfl)
  have b6 : w4.heap.size + 1 + 1 < W5.heap.size := by rw [← hW5]; simp only [World.size_alloc]; omega
  have k10 : W5.cell? ⟨w4.heap.size + 1 + 1, 0, none⟩ = some (.func (.func 51) #[] #[.pointer (some ⟨w.heap.size + 1 + 1, 0, none⟩)]) := by rw [← hW5]; exact cell_new_at _ _ _ _ _ _ (by simp) rfl
  have k11 : W5.cell? ⟨w4.heap.size + 1 + 1, 1, none⟩ = some (.int .i64 10) := by rw [← hW5]; exact cell_new_at _ _ _ _ _ _ (by simp) rfl
  have k12 : W5.cell? ⟨w4.heap.size + 1 + 1, 2, none⟩ = some (.func (.func 52) #[] #[.pointer (some ⟨w4.heap.size + 1, 0, none⟩)]) := by rw [← hW5]; exact cell_new_at _ _ _ _ _ _ (by simp) rfl
  have k13 : W5.cell? ⟨w4.heap.size + 1 + 1, 3, none⟩ = some (.int .i64 8) := by rw [← hW5]; exact cell_new_at _ _ _ _ _ _ (by simp) rfl
  have k14 : W5.cell? ⟨w4.heap.size + 1 + 1, 4, none⟩ = some (.func (.func 53) #[] #[.pointer (some ⟨w.heap.size + 1 + 1, 0, none⟩), .pointer (some ⟨w4.heap.size + 1, 0, none⟩)]) := by rw [← hW5]; exact cell_new_at _ _ _ _ _ _ (by simp) rfl
  have k15 : W5.cell? ⟨w4.heap.size + 1 + 1, 5, none⟩ = some (.int .i64 10) := by rw [← hW5]; exact cell_new_at _ _ _ _ _ _ (by simp) rfl
  have k16 : W5.cell? ⟨w4.heap.size + 1 + 1, 6, none⟩ = some (.func (.func 54) #[] #[.pointer (some ⟨w4.heap.size + 1, 0, none⟩)]) := by rw [← hW5]; exact cell_new_at _ _ _ _ _ _ (by simp) rfl
  have k17 : W5.cell? ⟨w4.heap.size + 1 + 1, 7, none⟩ = some (.int .i64 4) := by rw [← hW5]; exact cell_new_at _ _ _ _ _ _ (by simp) rfl
  have k18 : W5.cell? ⟨w4.heap.size + 1 + 1, 8, none⟩ = some (.func (.func 55) #[] #[.pointer (some ⟨w4.heap.size, 0, none⟩), .pointer (some ⟨w.heap.size, 0, none⟩), .pointer (some ⟨w.heap.size + 1, 0, none⟩), .pointer (some ⟨w4.heap.size + 1, 0, none⟩), .pointer (some ⟨w.heap.size + 1 + 1, 0, none⟩)]) := by rw [← hW5]; exact cell_new_at _ _ _ _ _ _ (by simp) rfl
  have k19 : W5.cell? ⟨w4.heap.size + 1 + 1, 9, none⟩ = some (.int .i64 101) := by rw [← hW5]; exact cell_new_at _ _ _ _ _ _ (by simp) rfl
  rw [hW5]
  clear hW5
  have HB := Below.refl W5.heap.size W5
  refine wp_loop_rounds 3 ?_
  have t1 : w4.heap.size + 1 + 1 < W5.heap.size + 1 := by omega
  have t2 : w4.heap.size + 1 + 1 < W5.heap.size + 1 + 1 := by omega
  have t3 : w4.heap.size + 1 + 1 < W5.heap.size + 1 + 1 + 1 := by omega
  have t4 : w4.heap.size + 1 + 1 < W5.heap.size + 1 + 1 + 1 + 1 := by omega
  have t5 : w4.heap.size + 1 + 1 < W5.heap.size + 1 + 1 + 1 + 1 + 1 := by omega
  rw [rounds_succ]
  go_wp2_with fail
  refine (udpD1 _ s _ (cell_alloc_l _ (k2))).mono ?_
  rintro e w9 ⟨rfl, rfl⟩
  go_wp2_with fail
  rw [rounds_succ]
  go_wp2_with fail
  refine (udpD2 _ n _ (cell_alloc_l _ (cell_alloc_l _ (k9)))).mono ?_
  rintro e w9 ⟨rfl, rfl⟩
  go_wp2_with fail
  rw [rounds_succ]
  go_wp2_with fail
  refine (udpD3 _ _ s n _ (cell_alloc_l _ (cell_alloc_l _ (cell_alloc_l _ (k2)))) (cell_alloc_l _ (cell_alloc_l _ (cell_alloc_l _ (k9))))).mono ?_
  rintro e w9 ⟨rfl, rfl⟩
  go_wp2_with fail
  go_region
  go_wp2_with fail
  obtain ⟨r0, r1, r2, r3, r4⟩ := set5 (v0 := .int .u32 0) (v1 := .int .u16 0) (v2 := .int .u32 0) (v3 := .int .u16 0) (v4 := .string ⟨#[]⟩) k3 k4 k5 k6 k7
  refine bodyPost_ret (v := .tuple #[dg 0 0 0 0 ⟨#[]⟩, .int .i64 10]) ?_ rfl ⟨rfl, ?_⟩
  · exact res_dg rfl _ _ _ _ _ _ _ _ _ rfl rfl (cell_drew_l (cell_alloc_l _ (cell_alloc_l _ (cell_alloc_l _ (r0))))) (cell_drew_l (cell_alloc_l _ (cell_alloc_l _ (cell_alloc_l _ (r1))))) (cell_drew_l (cell_alloc_l _ (cell_alloc_l _ (cell_alloc_l _ (r2))))) (cell_drew_l (cell_alloc_l _ (cell_alloc_l _ (cell_alloc_l _ (r3))))) (cell_drew_l (cell_alloc_l _ (cell_alloc_l _ (cell_alloc_l _ (r4)))))
  · with_reducible repeat (first | exact HW_W5.out | refine Below.drew ?_ | refine below_new ?_ _ | refine below_drewN ?_ _ | refine below_set ?_ (by omega))

set_option maxHeartbeats 2000000 in
set_option maxRecDepth 100000 in
theorem udpDecode_4 (x y p q n c : Int) (s : ByteArray) (w : World) (hs : s.size ≤ 140737488355000) (hx : 0 ≤ x) (hx2 : x < 4294967296) (hy : 0 ≤ y) (hy2 : y < 4294967296) (hp : Sp.num 65536 (Sp.textS s 0 2).data.toList = p) (hq : Sp.num 65536 (Sp.textS s 2 2).data.toList = q) (hn : Sp.num 65536 (Sp.textS s 4 2).data.toList = n) (hc : Sp.num 65536 (Sp.textS s 6 2).data.toList = c) (hn0 : 0 ≤ n) (hn1 : n ≤ 65535) (hc0 : 0 ≤ c) (hc1 : c ≤ 65535) (h1 : (8 : Int) ≤ s.size) (h2 : 8 ≤ n) (h3 : n ≤ s.size) (h4 : 65515 < n) :
    Calls Try.prog 31 #[.int .u32 x, .int .u32 y, .string s] w fun e w' => e = .returned (.tuple #[dg 0 0 0 0 ⟨#[]⟩, .int .i64 4]) ∧ Below w.heap.size w w' := by
  have hs2 : s.size ≤ maxLen := by unfold maxLen; omega
  have HP := hid hp
  have HQ := hid hq
  have HN := hid hn
  have HCc := hid hc
  clear hp hq hn hc
  go_enter Try.func31, Try.ntmps31
  go_wp2_with fail
  obtain ⟨W0, hW0⟩ : ∃ W, (((w.alloc (.cells #[.int .u32 x] 24)).alloc (.cells #[.int .u32 y] 24)).alloc (.cells #[.string s] 9)).alloc (.cells #[.int .u32 0, .int .u16 0, .int .u32 0, .int .u16 0, .string ⟨#[]⟩] 46) = W := ⟨_, rfl⟩
  have b0 : w.heap.size < W0.heap.size := by rw [← hW0]; simp only [World.size_alloc]; omega
  have k0 : W0.cell? ⟨w.heap.size, 0, none⟩ = some (.int .u32 x) := by rw [← hW0]; exact cell_alloc_l _ (cell_alloc_l _ (cell_alloc_l _ (cell_new_at _ _ _ _ _ _ (by simp) rfl)))
  have b1 : w.heap.size + 1 < W0.heap.size := by rw [← hW0]; simp only [World.size_alloc]; omega
  have k1 : W0.cell? ⟨w.heap.size + 1, 0, none⟩ = some (.int .u32 y) := by rw [← hW0]; exact cell_alloc_l _ (cell_alloc_l _ (cell_new_at _ _ _ _ _ _ (by simp) rfl))
  have b2 : w.heap.size + 1 + 1 < W0.heap.size := by rw [← hW0]; simp only [World.size_alloc]; omega
  have k2 : W0.cell? ⟨w.heap.size + 1 + 1, 0, none⟩ = some (.string s) := by rw [← hW0]; exact cell_alloc_l _ (cell_new_at _ _ _ _ _ _ (by simp) rfl)
  have b3 : w.heap.size + 1 + 1 + 1 < W0.heap.size := by rw [← hW0]; simp only [World.size_alloc]; omega
  have k3 : W0.cell? ⟨w.heap.size + 1 + 1 + 1, 0, none⟩ = some (.int .u32 0) := by rw [← hW0]; exact cell_new_at _ _ _ _ _ _ (by simp) rfl
  have k4 : W0.cell? ⟨w.heap.size + 1 + 1 + 1, 1, none⟩ = some (.int .u16 0) := by rw [← hW0]; exact cell_new_at _ _ _ _ _ _ (by simp) rfl
  have k5 : W0.cell? ⟨w.heap.size + 1 + 1 + 1, 2, none⟩ = some (.int .u32 0) := by rw [← hW0]; exact cell_new_at _ _ _ _ _ _ (by simp) rfl
  have k6 : W0.cell? ⟨w.heap.size + 1 + 1 + 1, 3, none⟩ = some (.int .u16 0) := by rw [← hW0]; exact cell_new_at _ _ _ _ _ _ (by simp) rfl
  have k7 : W0.cell? ⟨w.heap.size + 1 + 1 + 1, 4, none⟩ = some (.string ⟨#[]⟩) := by rw [← hW0]; exact cell_new_at _ _ _ _ _ _ (by simp) rfl
  have fz0 : W0.frozen? ⟨w.heap.size + 1 + 1 + 1, 0, none⟩ = false := by rw [← hW0]; exact frozen_new_at _ _ _ _ _ (by simp only [World.size_alloc])
  have fz1 : W0.frozen? ⟨w.heap.size + 1 + 1 + 1, 1, none⟩ = false := by rw [← hW0]; exact frozen_new_at _ _ _ _ _ (by simp only [World.size_alloc])
  have fz2 : W0.frozen? ⟨w.heap.size + 1 + 1 + 1, 2, none⟩ = false := by rw [← hW0]; exact frozen_new_at _ _ _ _ _ (by simp only [World.size_alloc])
  have fz3 : W0.frozen? ⟨w.heap.size + 1 + 1 + 1, 3, none⟩ = false := by rw [← hW0]; exact frozen_new_at _ _ _ _ _ (by simp only [World.size_alloc])
  have fz4 : W0.frozen? ⟨w.heap.size + 1 + 1 + 1, 4, none⟩ = false := by rw [← hW0]; exact frozen_new_at _ _ _ _ _ (by simp only [World.size_alloc])
  have HW_W0 := hid (show Below w.heap.size w W0 by rw [← hW0]; exact below_new (below_new (below_new (below_new (Below.refl _ _) _) _) _) _)
  rw [hW0]
  clear hW0
  have HB := Below.refl W0.heap.size W0
  refine (Calls.since HB (two_any s 0 _ hs2 (by decide))).mono ?_; clear HB
  rw [HP.out]
  rintro e w1 ⟨rfl, HB⟩
  have k2_w1 := cell_stays HB b2 k2
  go_wp2_with fail
  clear k2_w1
  refine (Calls.since HB (two_any s 2 _ hs2 (by decide))).mono ?_; clear HB
  rw [HQ.out]
  rintro e w2 ⟨rfl, HB⟩
  have k2_w2 := cell_stays HB b2 k2
  go_wp2_with fail
  clear k2_w2
  refine (Calls.since HB (two_any s 4 _ hs2 (by decide))).mono ?_; clear HB
  rw [HN.out]
  rintro e w3 ⟨rfl, HB⟩
  have k2_w3 := cell_stays HB b2 k2
  go_wp2_with fail
  clear k2_w3
  refine (Calls.since HB (two_any s 6 _ hs2 (by decide))).mono ?_; clear HB
  rw [HCc.out]
  rintro e w4 ⟨rfl, HB⟩
  have k2_w4 := cell_stays HB b2 k2
  go_wp2_with fail
  obtain ⟨W5, hW5⟩ : ∃ W, ((w4.alloc (.cells #[.int .u16 c] 23)).alloc (.cells #[.int .i64 n] 3)).alloc (.cells #[.func (.func 51) #[] #[.pointer (some ⟨w.heap.size + 1 + 1, 0, none⟩)], .int .i64 10, .func (.func 52) #[] #[.pointer (some ⟨w4.heap.size + 1, 0, none⟩)], .int .i64 8, .func (.func 53) #[] #[.pointer (some ⟨w.heap.size + 1 + 1, 0, none⟩), .pointer (some ⟨w4.heap.size + 1, 0, none⟩)], .int .i64 10, .func (.func 54) #[] #[.pointer (some ⟨w4.heap.size + 1, 0, none⟩)], .int .i64 4, .func (.func 55) #[] #[.pointer (some ⟨w4.heap.size, 0, none⟩), .pointer (some ⟨w.heap.size, 0, none⟩), .pointer (some ⟨w.heap.size + 1, 0, none⟩), .pointer (some ⟨w4.heap.size + 1, 0, none⟩), .pointer (some ⟨w.heap.size + 1 + 1, 0, none⟩)], .int .i64 101] 85) = W := ⟨_, rfl⟩
  have HX : Below W0.heap.size W0 W5 := by rw [← hW5]; exact below_new (below_new (below_new (HB) _) _) _
  have b0' : w.heap.size < W5.heap.size := Nat.lt_of_lt_of_le b0 HX.size
  have b1' : w.heap.size + 1 < W5.heap.size := Nat.lt_of_lt_of_le b1 HX.size
  have b2' : w.heap.size + 1 + 1 < W5.heap.size := Nat.lt_of_lt_of_le b2 HX.size
  have b3' : w.heap.size + 1 + 1 + 1 < W5.heap.size := Nat.lt_of_lt_of_le b3 HX.size
  have k0' := cell_stays HX b0 k0
  have k1' := cell_stays HX b1 k1
  have k2' := cell_stays HX b2 k2
  have k3' := cell_stays HX b3 k3
  have k4' := cell_stays HX b3 k4
  have k5' := cell_stays HX b3 k5
  have k6' := cell_stays HX b3 k6
  have k7' := cell_stays HX b3 k7
  have fz0' := frozen_stays HX b3 fz0
  have fz1' := frozen_stays HX b3 fz1
  have fz2' := frozen_stays HX b3 fz2
  have fz3' := frozen_stays HX b3 fz3
  have fz4' := frozen_stays HX b3 fz4
  have HW_W5 := hid (HW_W0.out.trans (HX.mono HW_W0.out.size))
  clear HX k0 k1 k2 k3 k4 k5 k6 k7 fz0 fz1 fz2 fz3 fz4 b0 b1 b2 b3 HW_W0
  have b0 := b0'
  have b1 := b1'
  have b2 := b2'
  have b3 := b3'
  have k0 := k0'
  have k1 := k1'
  have k2 := k2'
  have k3 := k3'
  have k4 := k4'
  have k5 := k5'
  have k6 := k6'
  have k7 := k7'
  have fz0 := fz0'
  have fz1 := fz1'
  have fz2 := fz2'
  have fz3 := fz3'
  have fz4 := fz4'
  clear fz0' fz1' fz2' fz3' fz4'
  clear b0' b1' b2' b3' k0' k1' k2' k3' k4' k5' k6' k7'
  have b4 : w4.heap.size < W5.heap.size := by rw [← hW5]; simp only [World.size_alloc]; omega
  have k8 : W5.cell? ⟨w4.heap.size, 0, none⟩ = some (.int .u16 c) := by rw [← hW5]; exact cell_alloc_l _ (cell_alloc_l _ (cell_new_at _ _ _ _ _ _ (by simp) rfl))
  have b5 : w4.heap.size + 1 < W5.heap.size := by rw [← hW5]; simp only [World.size_alloc]; omega
  have k9 : W5.cell? ⟨w4.heap.size + 1, 0, none⟩ = some (.int .i64 n) := by rw [← hW5]; exact cell_alloc_l _ (cell_new_at _ _ _ _ _ _ (by simp) rfl)
  have b6 : w4.heap.size + 1 + 1 < W5.heap.size := by rw [← hW5]; simp only [World.size_alloc]; omega
  have k10 : W5.cell? ⟨w4.heap.size + 1 + 1, 0, none⟩ = some (.func (.func 51) #[] #[.pointer (some ⟨w.heap.size + 1 + 1, 0, none⟩)]) := by rw [← hW5]; exact cell_new_at _ _ _ _ _ _ (by simp) rfl
  have k11 : W5.cell? ⟨w4.heap.size + 1 + 1, 1, none⟩ = some (.int .i64 10) := by rw [← hW5]; exact cell_new_at _ _ _ _ _ _ (by simp) rfl
  have k12 : W5.cell? ⟨w4.heap.size + 1 + 1, 2, none⟩ = some (.func (.func 52) #[] #[.pointer (some ⟨w4.heap.size + 1, 0, none⟩)]) := by rw [← hW5]; exact cell_new_at _ _ _ _ _ _ (by simp) rfl
  have k13 : W5.cell? ⟨w4.heap.size + 1 + 1, 3, none⟩ = some (.int .i64 8) := by rw [← hW5]; exact cell_new_at _ _ _ _ _ _ (by simp) rfl
  have k14 : W5.cell? ⟨w4.heap.size + 1 + 1, 4, none⟩ = some (.func (.func 53) #[] #[.pointer (some ⟨w.heap.size + 1 + 1, 0, none⟩), .pointer (some ⟨w4.heap.size + 1, 0, none⟩)]) := by rw [← hW5]; exact cell_new_at _ _ _ _ _ _ (by simp) rfl
  have k15 : W5.cell? ⟨w4.heap.size + 1 + 1, 5, none⟩ = some (.int .i64 10) := by rw [← hW5]; exact cell_new_at _ _ _ _ _ _ (by simp) rfl
  have k16 : W5.cell? ⟨w4.heap.size + 1 + 1, 6, none⟩ = some (.func (.func 54) #[] #[.pointer (some ⟨w4.heap.size + 1, 0, none⟩)]) := by rw [← hW5]; exact cell_new_at _ _ _ _ _ _ (by simp) rfl
  have k17 : W5.cell? ⟨w4.heap.size + 1 + 1, 7, none⟩ = some (.int .i64 4) := by rw [← hW5]; exact cell_new_at _ _ _ _ _ _ (by simp) rfl
  have k18 : W5.cell? ⟨w4.heap.size + 1 + 1, 8, none⟩ = some (.func (.func 55) #[] #[.pointer (some ⟨w4.heap.size, 0, none⟩), .pointer (some ⟨w.heap.size, 0, none⟩), .pointer (some ⟨w.heap.size + 1, 0, none⟩), .pointer (some ⟨w4.heap.size + 1, 0, none⟩), .pointer (some ⟨w.heap.size + 1 + 1, 0, none⟩)]) := by rw [← hW5]; exact cell_new_at _ _ _ _ _ _ (by simp) rfl
  have k19 : W5.cell? ⟨w4.heap.size + 1 + 1, 9, none⟩ = some (.int .i64 101) := by rw [← hW5]; exact cell_new_at _ _ _ _ _ _ (by simp) rfl
  rw [hW5]
  clear hW5
  have HB := Below.refl W5.heap.size W5
  refine wp_loop_rounds 4 ?_
  have t1 : w4.heap.size + 1 + 1 < W5.heap.size + 1 := by omega
  have t2 : w4.heap.size + 1 + 1 < W5.heap.size + 1 + 1 := by omega
  have t3 : w4.heap.size + 1 + 1 < W5.heap.size + 1 + 1 + 1 := by omega
  have t4 : w4.heap.size + 1 + 1 < W5.heap.size + 1 + 1 + 1 + 1 := by omega
  have t5 : w4.heap.size + 1 + 1 < W5.heap.size + 1 + 1 + 1 + 1 + 1 := by omega
  rw [rounds_succ]
  go_wp2_with fail
  refine (udpD1 _ s _ (cell_alloc_l _ (k2))).mono ?_
  rintro e w9 ⟨rfl, rfl⟩
  go_wp2_with fail
  rw [rounds_succ]
  go_wp2_with fail
  refine (udpD2 _ n _ (cell_alloc_l _ (cell_alloc_l _ (k9)))).mono ?_
  rintro e w9 ⟨rfl, rfl⟩
  go_wp2_with fail
  rw [rounds_succ]
  go_wp2_with fail
  refine (udpD3 _ _ s n _ (cell_alloc_l _ (cell_alloc_l _ (cell_alloc_l _ (k2)))) (cell_alloc_l _ (cell_alloc_l _ (cell_alloc_l _ (k9))))).mono ?_
  rintro e w9 ⟨rfl, rfl⟩
  go_wp2_with fail
  rw [rounds_succ]
  go_wp2_with fail
  refine (udpD4 _ n _ (cell_alloc_l _ (cell_alloc_l _ (cell_alloc_l _ (cell_alloc_l _ (k9)))))).mono ?_
  rintro e w9 ⟨rfl, rfl⟩
  go_wp2_with fail
  go_region
  go_wp2_with fail
  obtain ⟨r0, r1, r2, r3, r4⟩ := set5 (v0 := .int .u32 0) (v1 := .int .u16 0) (v2 := .int .u32 0) (v3 := .int .u16 0) (v4 := .string ⟨#[]⟩) k3 k4 k5 k6 k7
  refine bodyPost_ret (v := .tuple #[dg 0 0 0 0 ⟨#[]⟩, .int .i64 4]) ?_ rfl ⟨rfl, ?_⟩
  · exact res_dg rfl _ _ _ _ _ _ _ _ _ rfl rfl (cell_drew_l (cell_alloc_l _ (cell_alloc_l _ (cell_alloc_l _ (cell_alloc_l _ (r0)))))) (cell_drew_l (cell_alloc_l _ (cell_alloc_l _ (cell_alloc_l _ (cell_alloc_l _ (r1)))))) (cell_drew_l (cell_alloc_l _ (cell_alloc_l _ (cell_alloc_l _ (cell_alloc_l _ (r2)))))) (cell_drew_l (cell_alloc_l _ (cell_alloc_l _ (cell_alloc_l _ (cell_alloc_l _ (r3)))))) (cell_drew_l (cell_alloc_l _ (cell_alloc_l _ (cell_alloc_l _ (cell_alloc_l _ (r4))))))
  · with_reducible repeat (first | exact HW_W5.out | refine Below.drew ?_ | refine below_new ?_ _ | refine below_drewN ?_ _ | refine below_set ?_ (by omega))
end Go.Proofs.Ytlpeefemffmpmaa
