/- Walk of law SumWords. -/
import Derived.Test.YtlpeefemffmpmaaAlive02
import Derived.Test.YtlpeefemffmpmaaSumP
import Derived.Deep.QuietTactic
import Derived.BigQuiet
import Derived.Deep.RegionHeld3
namespace Go.Proofs.Ytlpeefemffmpmaa
open Go.RowKit
set_option linter.unusedVariables false

set_option maxHeartbeats 1000000 in
set_option maxRecDepth 100000 in
theorem sumWords_e0 (a0 a b : ByteArray) (p x : Int) (m : Nat) (w : World) (hs1 : (a0.size : Int) ≤ 4096) (hs2 : (b.size : Int) ≤ 4096) (hp1 : 0 ≤ p) (hp2 : p ≤ 65535) (hx1 : 0 ≤ x) (hx2 : x ≤ 65535) (hs : a0.extract 0 (m * 2) = a) (hm : a0.size / 2 = m) (he : ((b.size : Int) % 2 == 0) = true) (hcm : (Sp.sumB (a ++ b) != Sp.sumB (b ++ a)) = false) (hz : ((a.size : Int) == 0) = true) :
    Calls Try.prog 5 #[.string a0, .string b, .int .u16 p, .int .u16 x] w fun e w' => e = .returned (.bool true) ∧ Below w.heap.size w w' := by
  have hsz : a.size = 2 * m := by rw [← hs, ByteArray.size_extract]; omega
  have hle : m * 2 ≤ a0.size := by omega
  have e0 : (a0.size : Int) / 2 = (m : Int) := by omega
  have e1 : (a.size : Int) / 2 = (m : Int) := by omega
  have Hsz := hid hsz
  clear hm hsz
  have HB := Below.refl w.heap.size w
  go_enter Try.func5, Try.ntmps5
  go_wp2_with fail
  rw [hs]
  clear hs e0
  have za : a.size ≤ 4096 := by have := Hsz.out; omega
  obtain ⟨sb1, sb2⟩ := Sp.sumB_bd a
  have zab : (a ++ b).size ≤ 140737488355328 := by rw [ByteArray.size_append]; omega
  have zba : (b ++ a).size ≤ 140737488355328 := by rw [ByteArray.size_append]; omega
  go_wp2_with fail
  refine (add2 a b _ _ w HB (by simp) zab).mono ?_; clear HB
  rintro e w1 ⟨rfl, HB⟩
  go_wp2_with fail
  refine (add1 (a ++ b) _ _ w HB (by simp) zab).mono ?_; clear HB
  rintro e w2 ⟨rfl, HB⟩
  go_wp2_with fail
  refine (add2 a b _ _ w HB (by simp) zab).mono ?_; clear HB
  rintro e w3 ⟨rfl, HB⟩
  go_wp2_with fail
  refine (add2 b a _ _ w HB (by simp) zba).mono ?_; clear HB
  rintro e w4 ⟨rfl, HB⟩
  go_wp2_with fail
  refine (sumOf1 a _ _ w HB (by simp) (by omega)).mono ?_; clear HB
  rintro e w5 ⟨rfl, HB⟩
  go_wp2_with fail
  refine (add1 a _ _ w HB (by simp) (by omega)).mono ?_; clear HB
  rintro e w6 ⟨rfl, HB⟩
  go_wp2_with fail
  refine (Calls.since HB (alive02_any _)).mono ?_; clear HB
  rintro e w9 ⟨rfl, HB⟩
  go_wp2_with fail
  go_ret
  exact ⟨rfl, HB⟩

set_option maxHeartbeats 1000000 in
set_option maxRecDepth 100000 in
theorem sumWords_e_swapne (a0 a b : ByteArray) (p x : Int) (m : Nat) (w : World) (hs1 : (a0.size : Int) ≤ 4096) (hs2 : (b.size : Int) ≤ 4096) (hp1 : 0 ≤ p) (hp2 : p ≤ 65535) (hx1 : 0 ≤ x) (hx2 : x ≤ 65535) (hs : a0.extract 0 (m * 2) = a) (hm : a0.size / 2 = m) (he : ((b.size : Int) % 2 == 0) = true) (hcm : (Sp.sumB (a ++ b) != Sp.sumB (b ++ a)) = false) (hz : ((a.size : Int) == 0) = false) (k : Nat) (hk : 2 * (p % (m : Int)) = (k : Int)) (hkm : k + 2 ≤ 2 * m) (c : ByteArray) (hc : a.extract 0 k ++ Sp.ofB x 2 ++ a.extract (k + 2) a.size = c) (W : Int) (hW : Sp.word a k = W) (hw1 : 0 ≤ W) (hw2 : W ≤ 65535) (q1 : (W == x) = false) (q2 : (W % 65535 == 0) = true) (q3 : (x % 65535 == 0) = true) (q4 : (W != x) = true) (q5 : (Sp.sumB c == Sp.sumB a) = false) (q6 : (Sp.sumB c % 65535 == 0) = true) :
    Calls Try.prog 5 #[.string a0, .string b, .int .u16 p, .int .u16 x] w fun e w' => e = .returned (.bool true) ∧ Below w.heap.size w w' := by
  have hsz : a.size = 2 * m := by rw [← hs, ByteArray.size_extract]; omega
  have hle : m * 2 ≤ a0.size := by omega
  have e0 : (a0.size : Int) / 2 = (m : Int) := by omega
  have e1 : (a.size : Int) / 2 = (m : Int) := by omega
  have Hsz := hid hsz
  have g1 : ¬ (m : Int) = 0 := by omega
  have g2 : ((m : Int) == 0) = false := by simp; omega
  have HC := hid hc
  have HW := hid hW
  have HK := hid hkm
  have wk : wrap64 (k : Int) = k := IntWalk.wrap64_in _ ⟨by omega, by omega⟩
  clear hc hW hkm
  clear hm hsz
  have HB := Below.refl w.heap.size w
  go_enter Try.func5, Try.ntmps5
  go_wp2_with fail
  rw [hs]
  clear hs e0
  have za : a.size ≤ 4096 := by have := Hsz.out; omega
  obtain ⟨sb1, sb2⟩ := Sp.sumB_bd a
  have zab : (a ++ b).size ≤ 140737488355328 := by rw [ByteArray.size_append]; omega
  have zba : (b ++ a).size ≤ 140737488355328 := by rw [ByteArray.size_append]; omega
  go_wp2_with fail
  refine (add2 a b _ _ w HB (by simp) zab).mono ?_; clear HB
  rintro e w1 ⟨rfl, HB⟩
  go_wp2_with fail
  refine (add1 (a ++ b) _ _ w HB (by simp) zab).mono ?_; clear HB
  rintro e w2 ⟨rfl, HB⟩
  go_wp2_with fail
  refine (add2 a b _ _ w HB (by simp) zab).mono ?_; clear HB
  rintro e w3 ⟨rfl, HB⟩
  go_wp2_with fail
  refine (add2 b a _ _ w HB (by simp) zba).mono ?_; clear HB
  rintro e w4 ⟨rfl, HB⟩
  go_wp2_with fail
  refine (sumOf1 a _ _ w HB (by simp) (by omega)).mono ?_; clear HB
  rintro e w5 ⟨rfl, HB⟩
  go_wp2_with fail
  refine (add1 a _ _ w HB (by simp) (by omega)).mono ?_; clear HB
  rintro e w6 ⟨rfl, HB⟩
  go_wp2_with fail
  have hsz := Hsz.out
  have hkm := HK.out
  have kk1 : (0 : Int) ≤ (k : Int) := by omega
  have kk2 : (k : Int) < a.size := by omega
  have kk3 : (0 : Int) ≤ (k : Int) + 1 := by omega
  have kk4 : (k : Int) + 1 < a.size := by omega
  have uk1 : IntKind.i64.wrap ((k : Int) + 1) = (k : Int) + 1 := IntWalk.i64_in _ (by omega)
  have uk2 : ((k : Int) + 1).toNat = k + 1 := by omega
  have uk3 : k < a.size := by omega
  have uk4 : k + 1 < a.size := by omega
  clear hsz hkm
  go_wp2_with fail
  go_quiet (fail)
  go_wp2_with fail
  rw [Sp.word_walk a k uk4, HW.out]
  have HB := below_drewN HB nq
  have hsz := Hsz.out
  have hkm := HK.out
  have kz3 : ¬ 9223372036854775807 < min k a.size + (Sp.ofB x 2).size := by rw [Sp.ofB_size]; omega
  have kz4 : ¬ 9223372036854775807 < min k a.size + (Sp.ofB x 2).size + (a.size - (k + 2)) := by rw [Sp.ofB_size]; omega
  have vk1 : (k : Int) ≤ a.size := by omega
  have vk2 : (k : Int) + 2 ≤ a.size := by omega
  have vk3 : IntKind.i64.wrap ((k : Int) + 2) = (k : Int) + 2 := IntWalk.i64_in _ (by omega)
  have vk4 : (0 : Int) ≤ (k : Int) + 2 := by omega
  have vk5 : ((k : Int) + 2).toNat = k + 2 := by omega
  have ux : IntKind.u64.wrap x = x := Sp.u64_wrap_in _ hx1 (by omega)
  clear hsz hkm
  go_region_held3 (fun w' => Below w.heap.size w w') (first | assumption | (apply below_drewN; assumption) | (apply Below.drew; assumption)) (first | (go_at_call 27; refine (Calls.since (by assumption) (rof2_any _ _ (by omega) (by omega))).mono ?_; rintro e w7 ⟨rfl, HB2⟩))
  clear HB
  rw [HC.out]
  obtain ⟨sc1, sc2⟩ := Sp.sumB_bd c
  have zc : c.size ≤ 140737488355328 := by
    have h1 := Sp.repl_size a k (Sp.ofB x 2) (Sp.ofB_size _ _) (by have := HK.out; have := Hsz.out; omega)
    have h2 : (Sp.repl a k (Sp.ofB x 2)) = c := HC.out
    rw [h2] at h1; omega
  clear kz3 kz4 vk1 vk2 vk3 vk4 vk5
  go_wp2_with fail
  refine (add1 c _ _ w HB2 (by simp) zc).mono ?_; clear HB2
  rintro e w8 ⟨rfl, HB⟩
  go_wp2_with fail
  refine (add1 a _ _ w HB (by simp) (by omega)).mono ?_; clear HB
  rintro e w8 ⟨rfl, HB⟩
  go_wp2_with fail
  refine (add1 c _ _ w HB (by simp) zc).mono ?_; clear HB
  rintro e w8 ⟨rfl, HB⟩
  go_wp2_with fail
  refine (Calls.since HB (alive02_any _)).mono ?_; clear HB
  rintro e w9 ⟨rfl, HB⟩
  go_wp2_with fail
  go_ret
  exact ⟨rfl, HB⟩

set_option maxHeartbeats 1000000 in
set_option maxRecDepth 100000 in
theorem sumWords_e_swapeq (a0 a b : ByteArray) (p x : Int) (m : Nat) (w : World) (hs1 : (a0.size : Int) ≤ 4096) (hs2 : (b.size : Int) ≤ 4096) (hp1 : 0 ≤ p) (hp2 : p ≤ 65535) (hx1 : 0 ≤ x) (hx2 : x ≤ 65535) (hs : a0.extract 0 (m * 2) = a) (hm : a0.size / 2 = m) (he : ((b.size : Int) % 2 == 0) = true) (hcm : (Sp.sumB (a ++ b) != Sp.sumB (b ++ a)) = false) (hz : ((a.size : Int) == 0) = false) (k : Nat) (hk : 2 * (p % (m : Int)) = (k : Int)) (hkm : k + 2 ≤ 2 * m) (c : ByteArray) (hc : a.extract 0 k ++ Sp.ofB x 2 ++ a.extract (k + 2) a.size = c) (W : Int) (hW : Sp.word a k = W) (hw1 : 0 ≤ W) (hw2 : W ≤ 65535) (q1 : (W == x) = false) (q2 : (W % 65535 == 0) = true) (q3 : (x % 65535 == 0) = true) (q4 : (W != x) = true) (hca : Sp.sumB c = Sp.sumB a) :
    Calls Try.prog 5 #[.string a0, .string b, .int .u16 p, .int .u16 x] w fun e w' => e = .returned (.bool true) ∧ Below w.heap.size w w' := by
  have hsz : a.size = 2 * m := by rw [← hs, ByteArray.size_extract]; omega
  have hle : m * 2 ≤ a0.size := by omega
  have e0 : (a0.size : Int) / 2 = (m : Int) := by omega
  have e1 : (a.size : Int) / 2 = (m : Int) := by omega
  have Hsz := hid hsz
  have g1 : ¬ (m : Int) = 0 := by omega
  have g2 : ((m : Int) == 0) = false := by simp; omega
  have HC := hid hc
  have HW := hid hW
  have HK := hid hkm
  have wk : wrap64 (k : Int) = k := IntWalk.wrap64_in _ ⟨by omega, by omega⟩
  have HCA := hid hca
  clear hca
  clear hc hW hkm
  clear hm hsz
  have HB := Below.refl w.heap.size w
  go_enter Try.func5, Try.ntmps5
  go_wp2_with fail
  rw [hs]
  clear hs e0
  have za : a.size ≤ 4096 := by have := Hsz.out; omega
  obtain ⟨sb1, sb2⟩ := Sp.sumB_bd a
  have zab : (a ++ b).size ≤ 140737488355328 := by rw [ByteArray.size_append]; omega
  have zba : (b ++ a).size ≤ 140737488355328 := by rw [ByteArray.size_append]; omega
  go_wp2_with fail
  refine (add2 a b _ _ w HB (by simp) zab).mono ?_; clear HB
  rintro e w1 ⟨rfl, HB⟩
  go_wp2_with fail
  refine (add1 (a ++ b) _ _ w HB (by simp) zab).mono ?_; clear HB
  rintro e w2 ⟨rfl, HB⟩
  go_wp2_with fail
  refine (add2 a b _ _ w HB (by simp) zab).mono ?_; clear HB
  rintro e w3 ⟨rfl, HB⟩
  go_wp2_with fail
  refine (add2 b a _ _ w HB (by simp) zba).mono ?_; clear HB
  rintro e w4 ⟨rfl, HB⟩
  go_wp2_with fail
  refine (sumOf1 a _ _ w HB (by simp) (by omega)).mono ?_; clear HB
  rintro e w5 ⟨rfl, HB⟩
  go_wp2_with fail
  refine (add1 a _ _ w HB (by simp) (by omega)).mono ?_; clear HB
  rintro e w6 ⟨rfl, HB⟩
  go_wp2_with fail
  have hsz := Hsz.out
  have hkm := HK.out
  have kk1 : (0 : Int) ≤ (k : Int) := by omega
  have kk2 : (k : Int) < a.size := by omega
  have kk3 : (0 : Int) ≤ (k : Int) + 1 := by omega
  have kk4 : (k : Int) + 1 < a.size := by omega
  have uk1 : IntKind.i64.wrap ((k : Int) + 1) = (k : Int) + 1 := IntWalk.i64_in _ (by omega)
  have uk2 : ((k : Int) + 1).toNat = k + 1 := by omega
  have uk3 : k < a.size := by omega
  have uk4 : k + 1 < a.size := by omega
  clear hsz hkm
  go_wp2_with fail
  go_quiet (fail)
  go_wp2_with fail
  rw [Sp.word_walk a k uk4, HW.out]
  have HB := below_drewN HB nq
  have hsz := Hsz.out
  have hkm := HK.out
  have kz3 : ¬ 9223372036854775807 < min k a.size + (Sp.ofB x 2).size := by rw [Sp.ofB_size]; omega
  have kz4 : ¬ 9223372036854775807 < min k a.size + (Sp.ofB x 2).size + (a.size - (k + 2)) := by rw [Sp.ofB_size]; omega
  have vk1 : (k : Int) ≤ a.size := by omega
  have vk2 : (k : Int) + 2 ≤ a.size := by omega
  have vk3 : IntKind.i64.wrap ((k : Int) + 2) = (k : Int) + 2 := IntWalk.i64_in _ (by omega)
  have vk4 : (0 : Int) ≤ (k : Int) + 2 := by omega
  have vk5 : ((k : Int) + 2).toNat = k + 2 := by omega
  have ux : IntKind.u64.wrap x = x := Sp.u64_wrap_in _ hx1 (by omega)
  clear hsz hkm
  go_region_held3 (fun w' => Below w.heap.size w w') (first | assumption | (apply below_drewN; assumption) | (apply Below.drew; assumption)) (first | (go_at_call 27; refine (Calls.since (by assumption) (rof2_any _ _ (by omega) (by omega))).mono ?_; rintro e w7 ⟨rfl, HB2⟩))
  clear HB
  rw [HC.out]
  obtain ⟨sc1, sc2⟩ := Sp.sumB_bd c
  have zc : c.size ≤ 140737488355328 := by
    have h1 := Sp.repl_size a k (Sp.ofB x 2) (Sp.ofB_size _ _) (by have := HK.out; have := Hsz.out; omega)
    have h2 : (Sp.repl a k (Sp.ofB x 2)) = c := HC.out
    rw [h2] at h1; omega
  clear kz3 kz4 vk1 vk2 vk3 vk4 vk5
  go_wp2_with fail
  refine (add1 c _ _ w HB2 (by simp) zc).mono ?_; clear HB2
  rw [HCA.out]
  rintro e w8 ⟨rfl, HB⟩
  go_wp2_with fail
  refine (add1 a _ _ w HB (by simp) (by omega)).mono ?_; clear HB
  rintro e w8 ⟨rfl, HB⟩
  go_wp2_with fail
  refine (Calls.since HB (alive02_any _)).mono ?_; clear HB
  rintro e w9 ⟨rfl, HB⟩
  go_wp2_with fail
  go_ret
  exact ⟨rfl, HB⟩

set_option maxHeartbeats 1000000 in
set_option maxRecDepth 100000 in
theorem sumWords_e_same (a0 a b : ByteArray) (p x : Int) (m : Nat) (w : World) (hs1 : (a0.size : Int) ≤ 4096) (hs2 : (b.size : Int) ≤ 4096) (hp1 : 0 ≤ p) (hp2 : p ≤ 65535) (hx1 : 0 ≤ x) (hx2 : x ≤ 65535) (hs : a0.extract 0 (m * 2) = a) (hm : a0.size / 2 = m) (he : ((b.size : Int) % 2 == 0) = true) (hcm : (Sp.sumB (a ++ b) != Sp.sumB (b ++ a)) = false) (hz : ((a.size : Int) == 0) = false) (k : Nat) (hk : 2 * (p % (m : Int)) = (k : Int)) (hkm : k + 2 ≤ 2 * m) (c : ByteArray) (hc : a.extract 0 k ++ Sp.ofB x 2 ++ a.extract (k + 2) a.size = c) (hW : Sp.word a k = x) (hca : Sp.sumB c = Sp.sumB a) :
    Calls Try.prog 5 #[.string a0, .string b, .int .u16 p, .int .u16 x] w fun e w' => e = .returned (.bool true) ∧ Below w.heap.size w w' := by
  have hsz : a.size = 2 * m := by rw [← hs, ByteArray.size_extract]; omega
  have hle : m * 2 ≤ a0.size := by omega
  have e0 : (a0.size : Int) / 2 = (m : Int) := by omega
  have e1 : (a.size : Int) / 2 = (m : Int) := by omega
  have Hsz := hid hsz
  have g1 : ¬ (m : Int) = 0 := by omega
  have g2 : ((m : Int) == 0) = false := by simp; omega
  have HC := hid hc
  have HW := hid hW
  have HK := hid hkm
  have wk : wrap64 (k : Int) = k := IntWalk.wrap64_in _ ⟨by omega, by omega⟩
  have HCA := hid hca
  clear hca
  clear hc hW hkm
  clear hm hsz
  have HB := Below.refl w.heap.size w
  go_enter Try.func5, Try.ntmps5
  go_wp2_with fail
  rw [hs]
  clear hs e0
  have za : a.size ≤ 4096 := by have := Hsz.out; omega
  obtain ⟨sb1, sb2⟩ := Sp.sumB_bd a
  have zab : (a ++ b).size ≤ 140737488355328 := by rw [ByteArray.size_append]; omega
  have zba : (b ++ a).size ≤ 140737488355328 := by rw [ByteArray.size_append]; omega
  go_wp2_with fail
  refine (add2 a b _ _ w HB (by simp) zab).mono ?_; clear HB
  rintro e w1 ⟨rfl, HB⟩
  go_wp2_with fail
  refine (add1 (a ++ b) _ _ w HB (by simp) zab).mono ?_; clear HB
  rintro e w2 ⟨rfl, HB⟩
  go_wp2_with fail
  refine (add2 a b _ _ w HB (by simp) zab).mono ?_; clear HB
  rintro e w3 ⟨rfl, HB⟩
  go_wp2_with fail
  refine (add2 b a _ _ w HB (by simp) zba).mono ?_; clear HB
  rintro e w4 ⟨rfl, HB⟩
  go_wp2_with fail
  refine (sumOf1 a _ _ w HB (by simp) (by omega)).mono ?_; clear HB
  rintro e w5 ⟨rfl, HB⟩
  go_wp2_with fail
  refine (add1 a _ _ w HB (by simp) (by omega)).mono ?_; clear HB
  rintro e w6 ⟨rfl, HB⟩
  go_wp2_with fail
  have hsz := Hsz.out
  have hkm := HK.out
  have kk1 : (0 : Int) ≤ (k : Int) := by omega
  have kk2 : (k : Int) < a.size := by omega
  have kk3 : (0 : Int) ≤ (k : Int) + 1 := by omega
  have kk4 : (k : Int) + 1 < a.size := by omega
  have uk1 : IntKind.i64.wrap ((k : Int) + 1) = (k : Int) + 1 := IntWalk.i64_in _ (by omega)
  have uk2 : ((k : Int) + 1).toNat = k + 1 := by omega
  have uk3 : k < a.size := by omega
  have uk4 : k + 1 < a.size := by omega
  clear hsz hkm
  go_wp2_with fail
  go_quiet (fail)
  go_wp2_with fail
  rw [Sp.word_walk a k uk4, HW.out]
  have HB := below_drewN HB nq
  have hsz := Hsz.out
  have hkm := HK.out
  have kz3 : ¬ 9223372036854775807 < min k a.size + (Sp.ofB x 2).size := by rw [Sp.ofB_size]; omega
  have kz4 : ¬ 9223372036854775807 < min k a.size + (Sp.ofB x 2).size + (a.size - (k + 2)) := by rw [Sp.ofB_size]; omega
  have vk1 : (k : Int) ≤ a.size := by omega
  have vk2 : (k : Int) + 2 ≤ a.size := by omega
  have vk3 : IntKind.i64.wrap ((k : Int) + 2) = (k : Int) + 2 := IntWalk.i64_in _ (by omega)
  have vk4 : (0 : Int) ≤ (k : Int) + 2 := by omega
  have vk5 : ((k : Int) + 2).toNat = k + 2 := by omega
  have ux : IntKind.u64.wrap x = x := Sp.u64_wrap_in _ hx1 (by omega)
  clear hsz hkm
  go_region_held3 (fun w' => Below w.heap.size w w') (first | assumption | (apply below_drewN; assumption) | (apply Below.drew; assumption)) (first | (go_at_call 27; refine (Calls.since (by assumption) (rof2_any _ _ (by omega) (by omega))).mono ?_; rintro e w7 ⟨rfl, HB2⟩))
  clear HB
  rw [HC.out]
  obtain ⟨sc1, sc2⟩ := Sp.sumB_bd c
  have zc : c.size ≤ 140737488355328 := by
    have h1 := Sp.repl_size a k (Sp.ofB x 2) (Sp.ofB_size _ _) (by have := HK.out; have := Hsz.out; omega)
    have h2 : (Sp.repl a k (Sp.ofB x 2)) = c := HC.out
    rw [h2] at h1; omega
  clear kz3 kz4 vk1 vk2 vk3 vk4 vk5
  go_wp2_with fail
  refine (add1 c _ _ w HB2 (by simp) zc).mono ?_; clear HB2
  rw [HCA.out]
  rintro e w8 ⟨rfl, HB⟩
  go_wp2_with fail
  refine (add1 a _ _ w HB (by simp) (by omega)).mono ?_; clear HB
  rintro e w8 ⟨rfl, HB⟩
  go_wp2_with fail
  refine (Calls.since HB (alive02_any _)).mono ?_; clear HB
  rintro e w9 ⟨rfl, HB⟩
  go_wp2_with fail
  go_ret
  exact ⟨rfl, HB⟩

set_option maxHeartbeats 1000000 in
set_option maxRecDepth 100000 in
theorem sumWords_e_diff1 (a0 a b : ByteArray) (p x : Int) (m : Nat) (w : World) (hs1 : (a0.size : Int) ≤ 4096) (hs2 : (b.size : Int) ≤ 4096) (hp1 : 0 ≤ p) (hp2 : p ≤ 65535) (hx1 : 0 ≤ x) (hx2 : x ≤ 65535) (hs : a0.extract 0 (m * 2) = a) (hm : a0.size / 2 = m) (he : ((b.size : Int) % 2 == 0) = true) (hcm : (Sp.sumB (a ++ b) != Sp.sumB (b ++ a)) = false) (hz : ((a.size : Int) == 0) = false) (k : Nat) (hk : 2 * (p % (m : Int)) = (k : Int)) (hkm : k + 2 ≤ 2 * m) (c : ByteArray) (hc : a.extract 0 k ++ Sp.ofB x 2 ++ a.extract (k + 2) a.size = c) (W : Int) (hW : Sp.word a k = W) (hw1 : 0 ≤ W) (hw2 : W ≤ 65535) (q1 : (W == x) = false) (q2 : (W % 65535 == 0) = false) (q5 : (Sp.sumB c == Sp.sumB a) = false) :
    Calls Try.prog 5 #[.string a0, .string b, .int .u16 p, .int .u16 x] w fun e w' => e = .returned (.bool true) ∧ Below w.heap.size w w' := by
  have hsz : a.size = 2 * m := by rw [← hs, ByteArray.size_extract]; omega
  have hle : m * 2 ≤ a0.size := by omega
  have e0 : (a0.size : Int) / 2 = (m : Int) := by omega
  have e1 : (a.size : Int) / 2 = (m : Int) := by omega
  have Hsz := hid hsz
  have g1 : ¬ (m : Int) = 0 := by omega
  have g2 : ((m : Int) == 0) = false := by simp; omega
  have HC := hid hc
  have HW := hid hW
  have HK := hid hkm
  have wk : wrap64 (k : Int) = k := IntWalk.wrap64_in _ ⟨by omega, by omega⟩
  clear hc hW hkm
  clear hm hsz
  have HB := Below.refl w.heap.size w
  go_enter Try.func5, Try.ntmps5
  go_wp2_with fail
  rw [hs]
  clear hs e0
  have za : a.size ≤ 4096 := by have := Hsz.out; omega
  obtain ⟨sb1, sb2⟩ := Sp.sumB_bd a
  have zab : (a ++ b).size ≤ 140737488355328 := by rw [ByteArray.size_append]; omega
  have zba : (b ++ a).size ≤ 140737488355328 := by rw [ByteArray.size_append]; omega
  go_wp2_with fail
  refine (add2 a b _ _ w HB (by simp) zab).mono ?_; clear HB
  rintro e w1 ⟨rfl, HB⟩
  go_wp2_with fail
  refine (add1 (a ++ b) _ _ w HB (by simp) zab).mono ?_; clear HB
  rintro e w2 ⟨rfl, HB⟩
  go_wp2_with fail
  refine (add2 a b _ _ w HB (by simp) zab).mono ?_; clear HB
  rintro e w3 ⟨rfl, HB⟩
  go_wp2_with fail
  refine (add2 b a _ _ w HB (by simp) zba).mono ?_; clear HB
  rintro e w4 ⟨rfl, HB⟩
  go_wp2_with fail
  refine (sumOf1 a _ _ w HB (by simp) (by omega)).mono ?_; clear HB
  rintro e w5 ⟨rfl, HB⟩
  go_wp2_with fail
  refine (add1 a _ _ w HB (by simp) (by omega)).mono ?_; clear HB
  rintro e w6 ⟨rfl, HB⟩
  go_wp2_with fail
  have hsz := Hsz.out
  have hkm := HK.out
  have kk1 : (0 : Int) ≤ (k : Int) := by omega
  have kk2 : (k : Int) < a.size := by omega
  have kk3 : (0 : Int) ≤ (k : Int) + 1 := by omega
  have kk4 : (k : Int) + 1 < a.size := by omega
  have uk1 : IntKind.i64.wrap ((k : Int) + 1) = (k : Int) + 1 := IntWalk.i64_in _ (by omega)
  have uk2 : ((k : Int) + 1).toNat = k + 1 := by omega
  have uk3 : k < a.size := by omega
  have uk4 : k + 1 < a.size := by omega
  clear hsz hkm
  go_wp2_with fail
  go_quiet (fail)
  go_wp2_with fail
  rw [Sp.word_walk a k uk4, HW.out]
  have HB := below_drewN HB nq
  have hsz := Hsz.out
  have hkm := HK.out
  have kz3 : ¬ 9223372036854775807 < min k a.size + (Sp.ofB x 2).size := by rw [Sp.ofB_size]; omega
  have kz4 : ¬ 9223372036854775807 < min k a.size + (Sp.ofB x 2).size + (a.size - (k + 2)) := by rw [Sp.ofB_size]; omega
  have vk1 : (k : Int) ≤ a.size := by omega
  have vk2 : (k : Int) + 2 ≤ a.size := by omega
  have vk3 : IntKind.i64.wrap ((k : Int) + 2) = (k : Int) + 2 := IntWalk.i64_in _ (by omega)
  have vk4 : (0 : Int) ≤ (k : Int) + 2 := by omega
  have vk5 : ((k : Int) + 2).toNat = k + 2 := by omega
  have ux : IntKind.u64.wrap x = x := Sp.u64_wrap_in _ hx1 (by omega)
  clear hsz hkm
  go_region_held3 (fun w' => Below w.heap.size w w') (first | assumption | (apply below_drewN; assumption) | (apply Below.drew; assumption)) (first | (go_at_call 27; refine (Calls.since (by assumption) (rof2_any _ _ (by omega) (by omega))).mono ?_; rintro e w7 ⟨rfl, HB2⟩))
  clear HB
  rw [HC.out]
  obtain ⟨sc1, sc2⟩ := Sp.sumB_bd c
  have zc : c.size ≤ 140737488355328 := by
    have h1 := Sp.repl_size a k (Sp.ofB x 2) (Sp.ofB_size _ _) (by have := HK.out; have := Hsz.out; omega)
    have h2 : (Sp.repl a k (Sp.ofB x 2)) = c := HC.out
    rw [h2] at h1; omega
  clear kz3 kz4 vk1 vk2 vk3 vk4 vk5
  go_wp2_with fail
  refine (add1 c _ _ w HB2 (by simp) zc).mono ?_; clear HB2
  rintro e w8 ⟨rfl, HB⟩
  go_wp2_with fail
  refine (add1 a _ _ w HB (by simp) (by omega)).mono ?_; clear HB
  rintro e w8 ⟨rfl, HB⟩
  go_wp2_with fail
  refine (Calls.since HB (alive02_any _)).mono ?_; clear HB
  rintro e w9 ⟨rfl, HB⟩
  go_wp2_with fail
  go_ret
  exact ⟨rfl, HB⟩

set_option maxHeartbeats 1000000 in
set_option maxRecDepth 100000 in
theorem sumWords_e_diff2 (a0 a b : ByteArray) (p x : Int) (m : Nat) (w : World) (hs1 : (a0.size : Int) ≤ 4096) (hs2 : (b.size : Int) ≤ 4096) (hp1 : 0 ≤ p) (hp2 : p ≤ 65535) (hx1 : 0 ≤ x) (hx2 : x ≤ 65535) (hs : a0.extract 0 (m * 2) = a) (hm : a0.size / 2 = m) (he : ((b.size : Int) % 2 == 0) = true) (hcm : (Sp.sumB (a ++ b) != Sp.sumB (b ++ a)) = false) (hz : ((a.size : Int) == 0) = false) (k : Nat) (hk : 2 * (p % (m : Int)) = (k : Int)) (hkm : k + 2 ≤ 2 * m) (c : ByteArray) (hc : a.extract 0 k ++ Sp.ofB x 2 ++ a.extract (k + 2) a.size = c) (W : Int) (hW : Sp.word a k = W) (hw1 : 0 ≤ W) (hw2 : W ≤ 65535) (q1 : (W == x) = false) (q2 : (W % 65535 == 0) = true) (q3 : (x % 65535 == 0) = false) (q5 : (Sp.sumB c == Sp.sumB a) = false) :
    Calls Try.prog 5 #[.string a0, .string b, .int .u16 p, .int .u16 x] w fun e w' => e = .returned (.bool true) ∧ Below w.heap.size w w' := by
  have hsz : a.size = 2 * m := by rw [← hs, ByteArray.size_extract]; omega
  have hle : m * 2 ≤ a0.size := by omega
  have e0 : (a0.size : Int) / 2 = (m : Int) := by omega
  have e1 : (a.size : Int) / 2 = (m : Int) := by omega
  have Hsz := hid hsz
  have g1 : ¬ (m : Int) = 0 := by omega
  have g2 : ((m : Int) == 0) = false := by simp; omega
  have HC := hid hc
  have HW := hid hW
  have HK := hid hkm
  have wk : wrap64 (k : Int) = k := IntWalk.wrap64_in _ ⟨by omega, by omega⟩
  clear hc hW hkm
  clear hm hsz
  have HB := Below.refl w.heap.size w
  go_enter Try.func5, Try.ntmps5
  go_wp2_with fail
  rw [hs]
  clear hs e0
  have za : a.size ≤ 4096 := by have := Hsz.out; omega
  obtain ⟨sb1, sb2⟩ := Sp.sumB_bd a
  have zab : (a ++ b).size ≤ 140737488355328 := by rw [ByteArray.size_append]; omega
  have zba : (b ++ a).size ≤ 140737488355328 := by rw [ByteArray.size_append]; omega
  go_wp2_with fail
  refine (add2 a b _ _ w HB (by simp) zab).mono ?_; clear HB
  rintro e w1 ⟨rfl, HB⟩
  go_wp2_with fail
  refine (add1 (a ++ b) _ _ w HB (by simp) zab).mono ?_; clear HB
  rintro e w2 ⟨rfl, HB⟩
  go_wp2_with fail
  refine (add2 a b _ _ w HB (by simp) zab).mono ?_; clear HB
  rintro e w3 ⟨rfl, HB⟩
  go_wp2_with fail
  refine (add2 b a _ _ w HB (by simp) zba).mono ?_; clear HB
  rintro e w4 ⟨rfl, HB⟩
  go_wp2_with fail
  refine (sumOf1 a _ _ w HB (by simp) (by omega)).mono ?_; clear HB
  rintro e w5 ⟨rfl, HB⟩
  go_wp2_with fail
  refine (add1 a _ _ w HB (by simp) (by omega)).mono ?_; clear HB
  rintro e w6 ⟨rfl, HB⟩
  go_wp2_with fail
  have hsz := Hsz.out
  have hkm := HK.out
  have kk1 : (0 : Int) ≤ (k : Int) := by omega
  have kk2 : (k : Int) < a.size := by omega
  have kk3 : (0 : Int) ≤ (k : Int) + 1 := by omega
  have kk4 : (k : Int) + 1 < a.size := by omega
  have uk1 : IntKind.i64.wrap ((k : Int) + 1) = (k : Int) + 1 := IntWalk.i64_in _ (by omega)
  have uk2 : ((k : Int) + 1).toNat = k + 1 := by omega
  have uk3 : k < a.size := by omega
  have uk4 : k + 1 < a.size := by omega
  clear hsz hkm
  go_wp2_with fail
  go_quiet (fail)
  go_wp2_with fail
  rw [Sp.word_walk a k uk4, HW.out]
  have HB := below_drewN HB nq
  have hsz := Hsz.out
  have hkm := HK.out
  have kz3 : ¬ 9223372036854775807 < min k a.size + (Sp.ofB x 2).size := by rw [Sp.ofB_size]; omega
  have kz4 : ¬ 9223372036854775807 < min k a.size + (Sp.ofB x 2).size + (a.size - (k + 2)) := by rw [Sp.ofB_size]; omega
  have vk1 : (k : Int) ≤ a.size := by omega
  have vk2 : (k : Int) + 2 ≤ a.size := by omega
  have vk3 : IntKind.i64.wrap ((k : Int) + 2) = (k : Int) + 2 := IntWalk.i64_in _ (by omega)
  have vk4 : (0 : Int) ≤ (k : Int) + 2 := by omega
  have vk5 : ((k : Int) + 2).toNat = k + 2 := by omega
  have ux : IntKind.u64.wrap x = x := Sp.u64_wrap_in _ hx1 (by omega)
  clear hsz hkm
  go_region_held3 (fun w' => Below w.heap.size w w') (first | assumption | (apply below_drewN; assumption) | (apply Below.drew; assumption)) (first | (go_at_call 27; refine (Calls.since (by assumption) (rof2_any _ _ (by omega) (by omega))).mono ?_; rintro e w7 ⟨rfl, HB2⟩))
  clear HB
  rw [HC.out]
  obtain ⟨sc1, sc2⟩ := Sp.sumB_bd c
  have zc : c.size ≤ 140737488355328 := by
    have h1 := Sp.repl_size a k (Sp.ofB x 2) (Sp.ofB_size _ _) (by have := HK.out; have := Hsz.out; omega)
    have h2 : (Sp.repl a k (Sp.ofB x 2)) = c := HC.out
    rw [h2] at h1; omega
  clear kz3 kz4 vk1 vk2 vk3 vk4 vk5
  go_wp2_with fail
  refine (add1 c _ _ w HB2 (by simp) zc).mono ?_; clear HB2
  rintro e w8 ⟨rfl, HB⟩
  go_wp2_with fail
  refine (add1 a _ _ w HB (by simp) (by omega)).mono ?_; clear HB
  rintro e w8 ⟨rfl, HB⟩
  go_wp2_with fail
  refine (Calls.since HB (alive02_any _)).mono ?_; clear HB
  rintro e w9 ⟨rfl, HB⟩
  go_wp2_with fail
  go_ret
  exact ⟨rfl, HB⟩

set_option maxHeartbeats 1000000 in
set_option maxRecDepth 100000 in
theorem sumWords_o0 (a0 a b : ByteArray) (p x : Int) (m : Nat) (w : World) (hs1 : (a0.size : Int) ≤ 4096) (hs2 : (b.size : Int) ≤ 4096) (hp1 : 0 ≤ p) (hp2 : p ≤ 65535) (hx1 : 0 ≤ x) (hx2 : x ≤ 65535) (hs : a0.extract 0 (m * 2) = a) (hm : a0.size / 2 = m) (he : ((b.size : Int) % 2 == 0) = false) (hz : ((a.size : Int) == 0) = true) :
    Calls Try.prog 5 #[.string a0, .string b, .int .u16 p, .int .u16 x] w fun e w' => e = .returned (.bool true) ∧ Below w.heap.size w w' := by
  have hsz : a.size = 2 * m := by rw [← hs, ByteArray.size_extract]; omega
  have hle : m * 2 ≤ a0.size := by omega
  have e0 : (a0.size : Int) / 2 = (m : Int) := by omega
  have e1 : (a.size : Int) / 2 = (m : Int) := by omega
  have Hsz := hid hsz
  clear hm hsz
  have HB := Below.refl w.heap.size w
  go_enter Try.func5, Try.ntmps5
  go_wp2_with fail
  rw [hs]
  clear hs e0
  have za : a.size ≤ 4096 := by have := Hsz.out; omega
  obtain ⟨sb1, sb2⟩ := Sp.sumB_bd a
  have zab : (a ++ b).size ≤ 140737488355328 := by rw [ByteArray.size_append]; omega
  have zba : (b ++ a).size ≤ 140737488355328 := by rw [ByteArray.size_append]; omega
  go_wp2_with fail
  refine (add2 a b _ _ w HB (by simp) zab).mono ?_; clear HB
  rintro e w1 ⟨rfl, HB⟩
  go_wp2_with fail
  refine (add1 (a ++ b) _ _ w HB (by simp) zab).mono ?_; clear HB
  rintro e w2 ⟨rfl, HB⟩
  go_wp2_with fail
  refine (sumOf1 a _ _ w HB (by simp) (by omega)).mono ?_; clear HB
  rintro e w5 ⟨rfl, HB⟩
  go_wp2_with fail
  refine (add1 a _ _ w HB (by simp) (by omega)).mono ?_; clear HB
  rintro e w6 ⟨rfl, HB⟩
  go_wp2_with fail
  refine (Calls.since HB (alive02_any _)).mono ?_; clear HB
  rintro e w9 ⟨rfl, HB⟩
  go_wp2_with fail
  go_ret
  exact ⟨rfl, HB⟩

set_option maxHeartbeats 1000000 in
set_option maxRecDepth 100000 in
theorem sumWords_o_swapne (a0 a b : ByteArray) (p x : Int) (m : Nat) (w : World) (hs1 : (a0.size : Int) ≤ 4096) (hs2 : (b.size : Int) ≤ 4096) (hp1 : 0 ≤ p) (hp2 : p ≤ 65535) (hx1 : 0 ≤ x) (hx2 : x ≤ 65535) (hs : a0.extract 0 (m * 2) = a) (hm : a0.size / 2 = m) (he : ((b.size : Int) % 2 == 0) = false) (hz : ((a.size : Int) == 0) = false) (k : Nat) (hk : 2 * (p % (m : Int)) = (k : Int)) (hkm : k + 2 ≤ 2 * m) (c : ByteArray) (hc : a.extract 0 k ++ Sp.ofB x 2 ++ a.extract (k + 2) a.size = c) (W : Int) (hW : Sp.word a k = W) (hw1 : 0 ≤ W) (hw2 : W ≤ 65535) (q1 : (W == x) = false) (q2 : (W % 65535 == 0) = true) (q3 : (x % 65535 == 0) = true) (q4 : (W != x) = true) (q5 : (Sp.sumB c == Sp.sumB a) = false) (q6 : (Sp.sumB c % 65535 == 0) = true) :
    Calls Try.prog 5 #[.string a0, .string b, .int .u16 p, .int .u16 x] w fun e w' => e = .returned (.bool true) ∧ Below w.heap.size w w' := by
  have hsz : a.size = 2 * m := by rw [← hs, ByteArray.size_extract]; omega
  have hle : m * 2 ≤ a0.size := by omega
  have e0 : (a0.size : Int) / 2 = (m : Int) := by omega
  have e1 : (a.size : Int) / 2 = (m : Int) := by omega
  have Hsz := hid hsz
  have g1 : ¬ (m : Int) = 0 := by omega
  have g2 : ((m : Int) == 0) = false := by simp; omega
  have HC := hid hc
  have HW := hid hW
  have HK := hid hkm
  have wk : wrap64 (k : Int) = k := IntWalk.wrap64_in _ ⟨by omega, by omega⟩
  clear hc hW hkm
  clear hm hsz
  have HB := Below.refl w.heap.size w
  go_enter Try.func5, Try.ntmps5
  go_wp2_with fail
  rw [hs]
  clear hs e0
  have za : a.size ≤ 4096 := by have := Hsz.out; omega
  obtain ⟨sb1, sb2⟩ := Sp.sumB_bd a
  have zab : (a ++ b).size ≤ 140737488355328 := by rw [ByteArray.size_append]; omega
  have zba : (b ++ a).size ≤ 140737488355328 := by rw [ByteArray.size_append]; omega
  go_wp2_with fail
  refine (add2 a b _ _ w HB (by simp) zab).mono ?_; clear HB
  rintro e w1 ⟨rfl, HB⟩
  go_wp2_with fail
  refine (add1 (a ++ b) _ _ w HB (by simp) zab).mono ?_; clear HB
  rintro e w2 ⟨rfl, HB⟩
  go_wp2_with fail
  refine (sumOf1 a _ _ w HB (by simp) (by omega)).mono ?_; clear HB
  rintro e w5 ⟨rfl, HB⟩
  go_wp2_with fail
  refine (add1 a _ _ w HB (by simp) (by omega)).mono ?_; clear HB
  rintro e w6 ⟨rfl, HB⟩
  go_wp2_with fail
  have hsz := Hsz.out
  have hkm := HK.out
  have kk1 : (0 : Int) ≤ (k : Int) := by omega
  have kk2 : (k : Int) < a.size := by omega
  have kk3 : (0 : Int) ≤ (k : Int) + 1 := by omega
  have kk4 : (k : Int) + 1 < a.size := by omega
  have uk1 : IntKind.i64.wrap ((k : Int) + 1) = (k : Int) + 1 := IntWalk.i64_in _ (by omega)
  have uk2 : ((k : Int) + 1).toNat = k + 1 := by omega
  have uk3 : k < a.size := by omega
  have uk4 : k + 1 < a.size := by omega
  clear hsz hkm
  go_wp2_with fail
  go_quiet (fail)
  go_wp2_with fail
  rw [Sp.word_walk a k uk4, HW.out]
  have HB := below_drewN HB nq
  have hsz := Hsz.out
  have hkm := HK.out
  have kz3 : ¬ 9223372036854775807 < min k a.size + (Sp.ofB x 2).size := by rw [Sp.ofB_size]; omega
  have kz4 : ¬ 9223372036854775807 < min k a.size + (Sp.ofB x 2).size + (a.size - (k + 2)) := by rw [Sp.ofB_size]; omega
  have vk1 : (k : Int) ≤ a.size := by omega
  have vk2 : (k : Int) + 2 ≤ a.size := by omega
  have vk3 : IntKind.i64.wrap ((k : Int) + 2) = (k : Int) + 2 := IntWalk.i64_in _ (by omega)
  have vk4 : (0 : Int) ≤ (k : Int) + 2 := by omega
  have vk5 : ((k : Int) + 2).toNat = k + 2 := by omega
  have ux : IntKind.u64.wrap x = x := Sp.u64_wrap_in _ hx1 (by omega)
  clear hsz hkm
  go_region_held3 (fun w' => Below w.heap.size w w') (first | assumption | (apply below_drewN; assumption) | (apply Below.drew; assumption)) (first | (go_at_call 27; refine (Calls.since (by assumption) (rof2_any _ _ (by omega) (by omega))).mono ?_; rintro e w7 ⟨rfl, HB2⟩))
  clear HB
  rw [HC.out]
  obtain ⟨sc1, sc2⟩ := Sp.sumB_bd c
  have zc : c.size ≤ 140737488355328 := by
    have h1 := Sp.repl_size a k (Sp.ofB x 2) (Sp.ofB_size _ _) (by have := HK.out; have := Hsz.out; omega)
    have h2 : (Sp.repl a k (Sp.ofB x 2)) = c := HC.out
    rw [h2] at h1; omega
  clear kz3 kz4 vk1 vk2 vk3 vk4 vk5
  go_wp2_with fail
  refine (add1 c _ _ w HB2 (by simp) zc).mono ?_; clear HB2
  rintro e w8 ⟨rfl, HB⟩
  go_wp2_with fail
  refine (add1 a _ _ w HB (by simp) (by omega)).mono ?_; clear HB
  rintro e w8 ⟨rfl, HB⟩
  go_wp2_with fail
  refine (add1 c _ _ w HB (by simp) zc).mono ?_; clear HB
  rintro e w8 ⟨rfl, HB⟩
  go_wp2_with fail
  refine (Calls.since HB (alive02_any _)).mono ?_; clear HB
  rintro e w9 ⟨rfl, HB⟩
  go_wp2_with fail
  go_ret
  exact ⟨rfl, HB⟩

set_option maxHeartbeats 1000000 in
set_option maxRecDepth 100000 in
theorem sumWords_o_swapeq (a0 a b : ByteArray) (p x : Int) (m : Nat) (w : World) (hs1 : (a0.size : Int) ≤ 4096) (hs2 : (b.size : Int) ≤ 4096) (hp1 : 0 ≤ p) (hp2 : p ≤ 65535) (hx1 : 0 ≤ x) (hx2 : x ≤ 65535) (hs : a0.extract 0 (m * 2) = a) (hm : a0.size / 2 = m) (he : ((b.size : Int) % 2 == 0) = false) (hz : ((a.size : Int) == 0) = false) (k : Nat) (hk : 2 * (p % (m : Int)) = (k : Int)) (hkm : k + 2 ≤ 2 * m) (c : ByteArray) (hc : a.extract 0 k ++ Sp.ofB x 2 ++ a.extract (k + 2) a.size = c) (W : Int) (hW : Sp.word a k = W) (hw1 : 0 ≤ W) (hw2 : W ≤ 65535) (q1 : (W == x) = false) (q2 : (W % 65535 == 0) = true) (q3 : (x % 65535 == 0) = true) (q4 : (W != x) = true) (hca : Sp.sumB c = Sp.sumB a) :
    Calls Try.prog 5 #[.string a0, .string b, .int .u16 p, .int .u16 x] w fun e w' => e = .returned (.bool true) ∧ Below w.heap.size w w' := by
  have hsz : a.size = 2 * m := by rw [← hs, ByteArray.size_extract]; omega
  have hle : m * 2 ≤ a0.size := by omega
  have e0 : (a0.size : Int) / 2 = (m : Int) := by omega
  have e1 : (a.size : Int) / 2 = (m : Int) := by omega
  have Hsz := hid hsz
  have g1 : ¬ (m : Int) = 0 := by omega
  have g2 : ((m : Int) == 0) = false := by simp; omega
  have HC := hid hc
  have HW := hid hW
  have HK := hid hkm
  have wk : wrap64 (k : Int) = k := IntWalk.wrap64_in _ ⟨by omega, by omega⟩
  have HCA := hid hca
  clear hca
  clear hc hW hkm
  clear hm hsz
  have HB := Below.refl w.heap.size w
  go_enter Try.func5, Try.ntmps5
  go_wp2_with fail
  rw [hs]
  clear hs e0
  have za : a.size ≤ 4096 := by have := Hsz.out; omega
  obtain ⟨sb1, sb2⟩ := Sp.sumB_bd a
  have zab : (a ++ b).size ≤ 140737488355328 := by rw [ByteArray.size_append]; omega
  have zba : (b ++ a).size ≤ 140737488355328 := by rw [ByteArray.size_append]; omega
  go_wp2_with fail
  refine (add2 a b _ _ w HB (by simp) zab).mono ?_; clear HB
  rintro e w1 ⟨rfl, HB⟩
  go_wp2_with fail
  refine (add1 (a ++ b) _ _ w HB (by simp) zab).mono ?_; clear HB
  rintro e w2 ⟨rfl, HB⟩
  go_wp2_with fail
  refine (sumOf1 a _ _ w HB (by simp) (by omega)).mono ?_; clear HB
  rintro e w5 ⟨rfl, HB⟩
  go_wp2_with fail
  refine (add1 a _ _ w HB (by simp) (by omega)).mono ?_; clear HB
  rintro e w6 ⟨rfl, HB⟩
  go_wp2_with fail
  have hsz := Hsz.out
  have hkm := HK.out
  have kk1 : (0 : Int) ≤ (k : Int) := by omega
  have kk2 : (k : Int) < a.size := by omega
  have kk3 : (0 : Int) ≤ (k : Int) + 1 := by omega
  have kk4 : (k : Int) + 1 < a.size := by omega
  have uk1 : IntKind.i64.wrap ((k : Int) + 1) = (k : Int) + 1 := IntWalk.i64_in _ (by omega)
  have uk2 : ((k : Int) + 1).toNat = k + 1 := by omega
  have uk3 : k < a.size := by omega
  have uk4 : k + 1 < a.size := by omega
  clear hsz hkm
  go_wp2_with fail
  go_quiet (fail)
  go_wp2_with fail
  rw [Sp.word_walk a k uk4, HW.out]
  have HB := below_drewN HB nq
  have hsz := Hsz.out
  have hkm := HK.out
  have kz3 : ¬ 9223372036854775807 < min k a.size + (Sp.ofB x 2).size := by rw [Sp.ofB_size]; omega
  have kz4 : ¬ 9223372036854775807 < min k a.size + (Sp.ofB x 2).size + (a.size - (k + 2)) := by rw [Sp.ofB_size]; omega
  have vk1 : (k : Int) ≤ a.size := by omega
  have vk2 : (k : Int) + 2 ≤ a.size := by omega
  have vk3 : IntKind.i64.wrap ((k : Int) + 2) = (k : Int) + 2 := IntWalk.i64_in _ (by omega)
  have vk4 : (0 : Int) ≤ (k : Int) + 2 := by omega
  have vk5 : ((k : Int) + 2).toNat = k + 2 := by omega
  have ux : IntKind.u64.wrap x = x := Sp.u64_wrap_in _ hx1 (by omega)
  clear hsz hkm
  go_region_held3 (fun w' => Below w.heap.size w w') (first | assumption | (apply below_drewN; assumption) | (apply Below.drew; assumption)) (first | (go_at_call 27; refine (Calls.since (by assumption) (rof2_any _ _ (by omega) (by omega))).mono ?_; rintro e w7 ⟨rfl, HB2⟩))
  clear HB
  rw [HC.out]
  obtain ⟨sc1, sc2⟩ := Sp.sumB_bd c
  have zc : c.size ≤ 140737488355328 := by
    have h1 := Sp.repl_size a k (Sp.ofB x 2) (Sp.ofB_size _ _) (by have := HK.out; have := Hsz.out; omega)
    have h2 : (Sp.repl a k (Sp.ofB x 2)) = c := HC.out
    rw [h2] at h1; omega
  clear kz3 kz4 vk1 vk2 vk3 vk4 vk5
  go_wp2_with fail
  refine (add1 c _ _ w HB2 (by simp) zc).mono ?_; clear HB2
  rw [HCA.out]
  rintro e w8 ⟨rfl, HB⟩
  go_wp2_with fail
  refine (add1 a _ _ w HB (by simp) (by omega)).mono ?_; clear HB
  rintro e w8 ⟨rfl, HB⟩
  go_wp2_with fail
  refine (Calls.since HB (alive02_any _)).mono ?_; clear HB
  rintro e w9 ⟨rfl, HB⟩
  go_wp2_with fail
  go_ret
  exact ⟨rfl, HB⟩

set_option maxHeartbeats 1000000 in
set_option maxRecDepth 100000 in
theorem sumWords_o_same (a0 a b : ByteArray) (p x : Int) (m : Nat) (w : World) (hs1 : (a0.size : Int) ≤ 4096) (hs2 : (b.size : Int) ≤ 4096) (hp1 : 0 ≤ p) (hp2 : p ≤ 65535) (hx1 : 0 ≤ x) (hx2 : x ≤ 65535) (hs : a0.extract 0 (m * 2) = a) (hm : a0.size / 2 = m) (he : ((b.size : Int) % 2 == 0) = false) (hz : ((a.size : Int) == 0) = false) (k : Nat) (hk : 2 * (p % (m : Int)) = (k : Int)) (hkm : k + 2 ≤ 2 * m) (c : ByteArray) (hc : a.extract 0 k ++ Sp.ofB x 2 ++ a.extract (k + 2) a.size = c) (hW : Sp.word a k = x) (hca : Sp.sumB c = Sp.sumB a) :
    Calls Try.prog 5 #[.string a0, .string b, .int .u16 p, .int .u16 x] w fun e w' => e = .returned (.bool true) ∧ Below w.heap.size w w' := by
  have hsz : a.size = 2 * m := by rw [← hs, ByteArray.size_extract]; omega
  have hle : m * 2 ≤ a0.size := by omega
  have e0 : (a0.size : Int) / 2 = (m : Int) := by omega
  have e1 : (a.size : Int) / 2 = (m : Int) := by omega
  have Hsz := hid hsz
  have g1 : ¬ (m : Int) = 0 := by omega
  have g2 : ((m : Int) == 0) = false := by simp; omega
  have HC := hid hc
  have HW := hid hW
  have HK := hid hkm
  have wk : wrap64 (k : Int) = k := IntWalk.wrap64_in _ ⟨by omega, by omega⟩
  have HCA := hid hca
  clear hca
  clear hc hW hkm
  clear hm hsz
  have HB := Below.refl w.heap.size w
  go_enter Try.func5, Try.ntmps5
  go_wp2_with fail
  rw [hs]
  clear hs e0
  have za : a.size ≤ 4096 := by have := Hsz.out; omega
  obtain ⟨sb1, sb2⟩ := Sp.sumB_bd a
  have zab : (a ++ b).size ≤ 140737488355328 := by rw [ByteArray.size_append]; omega
  have zba : (b ++ a).size ≤ 140737488355328 := by rw [ByteArray.size_append]; omega
  go_wp2_with fail
  refine (add2 a b _ _ w HB (by simp) zab).mono ?_; clear HB
  rintro e w1 ⟨rfl, HB⟩
  go_wp2_with fail
  refine (add1 (a ++ b) _ _ w HB (by simp) zab).mono ?_; clear HB
  rintro e w2 ⟨rfl, HB⟩
  go_wp2_with fail
  refine (sumOf1 a _ _ w HB (by simp) (by omega)).mono ?_; clear HB
  rintro e w5 ⟨rfl, HB⟩
  go_wp2_with fail
  refine (add1 a _ _ w HB (by simp) (by omega)).mono ?_; clear HB
  rintro e w6 ⟨rfl, HB⟩
  go_wp2_with fail
  have hsz := Hsz.out
  have hkm := HK.out
  have kk1 : (0 : Int) ≤ (k : Int) := by omega
  have kk2 : (k : Int) < a.size := by omega
  have kk3 : (0 : Int) ≤ (k : Int) + 1 := by omega
  have kk4 : (k : Int) + 1 < a.size := by omega
  have uk1 : IntKind.i64.wrap ((k : Int) + 1) = (k : Int) + 1 := IntWalk.i64_in _ (by omega)
  have uk2 : ((k : Int) + 1).toNat = k + 1 := by omega
  have uk3 : k < a.size := by omega
  have uk4 : k + 1 < a.size := by omega
  clear hsz hkm
  go_wp2_with fail
  go_quiet (fail)
  go_wp2_with fail
  rw [Sp.word_walk a k uk4, HW.out]
  have HB := below_drewN HB nq
  have hsz := Hsz.out
  have hkm := HK.out
  have kz3 : ¬ 9223372036854775807 < min k a.size + (Sp.ofB x 2).size := by rw [Sp.ofB_size]; omega
  have kz4 : ¬ 9223372036854775807 < min k a.size + (Sp.ofB x 2).size + (a.size - (k + 2)) := by rw [Sp.ofB_size]; omega
  have vk1 : (k : Int) ≤ a.size := by omega
  have vk2 : (k : Int) + 2 ≤ a.size := by omega
  have vk3 : IntKind.i64.wrap ((k : Int) + 2) = (k : Int) + 2 := IntWalk.i64_in _ (by omega)
  have vk4 : (0 : Int) ≤ (k : Int) + 2 := by omega
  have vk5 : ((k : Int) + 2).toNat = k + 2 := by omega
  have ux : IntKind.u64.wrap x = x := Sp.u64_wrap_in _ hx1 (by omega)
  clear hsz hkm
  go_region_held3 (fun w' => Below w.heap.size w w') (first | assumption | (apply below_drewN; assumption) | (apply Below.drew; assumption)) (first | (go_at_call 27; refine (Calls.since (by assumption) (rof2_any _ _ (by omega) (by omega))).mono ?_; rintro e w7 ⟨rfl, HB2⟩))
  clear HB
  rw [HC.out]
  obtain ⟨sc1, sc2⟩ := Sp.sumB_bd c
  have zc : c.size ≤ 140737488355328 := by
    have h1 := Sp.repl_size a k (Sp.ofB x 2) (Sp.ofB_size _ _) (by have := HK.out; have := Hsz.out; omega)
    have h2 : (Sp.repl a k (Sp.ofB x 2)) = c := HC.out
    rw [h2] at h1; omega
  clear kz3 kz4 vk1 vk2 vk3 vk4 vk5
  go_wp2_with fail
  refine (add1 c _ _ w HB2 (by simp) zc).mono ?_; clear HB2
  rw [HCA.out]
  rintro e w8 ⟨rfl, HB⟩
  go_wp2_with fail
  refine (add1 a _ _ w HB (by simp) (by omega)).mono ?_; clear HB
  rintro e w8 ⟨rfl, HB⟩
  go_wp2_with fail
  refine (Calls.since HB (alive02_any _)).mono ?_; clear HB
  rintro e w9 ⟨rfl, HB⟩
  go_wp2_with fail
  go_ret
  exact ⟨rfl, HB⟩

set_option maxHeartbeats 1000000 in
set_option maxRecDepth 100000 in
theorem sumWords_o_diff1 (a0 a b : ByteArray) (p x : Int) (m : Nat) (w : World) (hs1 : (a0.size : Int) ≤ 4096) (hs2 : (b.size : Int) ≤ 4096) (hp1 : 0 ≤ p) (hp2 : p ≤ 65535) (hx1 : 0 ≤ x) (hx2 : x ≤ 65535) (hs : a0.extract 0 (m * 2) = a) (hm : a0.size / 2 = m) (he : ((b.size : Int) % 2 == 0) = false) (hz : ((a.size : Int) == 0) = false) (k : Nat) (hk : 2 * (p % (m : Int)) = (k : Int)) (hkm : k + 2 ≤ 2 * m) (c : ByteArray) (hc : a.extract 0 k ++ Sp.ofB x 2 ++ a.extract (k + 2) a.size = c) (W : Int) (hW : Sp.word a k = W) (hw1 : 0 ≤ W) (hw2 : W ≤ 65535) (q1 : (W == x) = false) (q2 : (W % 65535 == 0) = false) (q5 : (Sp.sumB c == Sp.sumB a) = false) :
    Calls Try.prog 5 #[.string a0, .string b, .int .u16 p, .int .u16 x] w fun e w' => e = .returned (.bool true) ∧ Below w.heap.size w w' := by
  have hsz : a.size = 2 * m := by rw [← hs, ByteArray.size_extract]; omega
  have hle : m * 2 ≤ a0.size := by omega
  have e0 : (a0.size : Int) / 2 = (m : Int) := by omega
  have e1 : (a.size : Int) / 2 = (m : Int) := by omega
  have Hsz := hid hsz
  have g1 : ¬ (m : Int) = 0 := by omega
  have g2 : ((m : Int) == 0) = false := by simp; omega
  have HC := hid hc
  have HW := hid hW
  have HK := hid hkm
  have wk : wrap64 (k : Int) = k := IntWalk.wrap64_in _ ⟨by omega, by omega⟩
  clear hc hW hkm
  clear hm hsz
  have HB := Below.refl w.heap.size w
  go_enter Try.func5, Try.ntmps5
  go_wp2_with fail
  rw [hs]
  clear hs e0
  have za : a.size ≤ 4096 := by have := Hsz.out; omega
  obtain ⟨sb1, sb2⟩ := Sp.sumB_bd a
  have zab : (a ++ b).size ≤ 140737488355328 := by rw [ByteArray.size_append]; omega
  have zba : (b ++ a).size ≤ 140737488355328 := by rw [ByteArray.size_append]; omega
  go_wp2_with fail
  refine (add2 a b _ _ w HB (by simp) zab).mono ?_; clear HB
  rintro e w1 ⟨rfl, HB⟩
  go_wp2_with fail
  refine (add1 (a ++ b) _ _ w HB (by simp) zab).mono ?_; clear HB
  rintro e w2 ⟨rfl, HB⟩
  go_wp2_with fail
  refine (sumOf1 a _ _ w HB (by simp) (by omega)).mono ?_; clear HB
  rintro e w5 ⟨rfl, HB⟩
  go_wp2_with fail
  refine (add1 a _ _ w HB (by simp) (by omega)).mono ?_; clear HB
  rintro e w6 ⟨rfl, HB⟩
  go_wp2_with fail
  have hsz := Hsz.out
  have hkm := HK.out
  have kk1 : (0 : Int) ≤ (k : Int) := by omega
  have kk2 : (k : Int) < a.size := by omega
  have kk3 : (0 : Int) ≤ (k : Int) + 1 := by omega
  have kk4 : (k : Int) + 1 < a.size := by omega
  have uk1 : IntKind.i64.wrap ((k : Int) + 1) = (k : Int) + 1 := IntWalk.i64_in _ (by omega)
  have uk2 : ((k : Int) + 1).toNat = k + 1 := by omega
  have uk3 : k < a.size := by omega
  have uk4 : k + 1 < a.size := by omega
  clear hsz hkm
  go_wp2_with fail
  go_quiet (fail)
  go_wp2_with fail
  rw [Sp.word_walk a k uk4, HW.out]
  have HB := below_drewN HB nq
  have hsz := Hsz.out
  have hkm := HK.out
  have kz3 : ¬ 9223372036854775807 < min k a.size + (Sp.ofB x 2).size := by rw [Sp.ofB_size]; omega
  have kz4 : ¬ 9223372036854775807 < min k a.size + (Sp.ofB x 2).size + (a.size - (k + 2)) := by rw [Sp.ofB_size]; omega
  have vk1 : (k : Int) ≤ a.size := by omega
  have vk2 : (k : Int) + 2 ≤ a.size := by omega
  have vk3 : IntKind.i64.wrap ((k : Int) + 2) = (k : Int) + 2 := IntWalk.i64_in _ (by omega)
  have vk4 : (0 : Int) ≤ (k : Int) + 2 := by omega
  have vk5 : ((k : Int) + 2).toNat = k + 2 := by omega
  have ux : IntKind.u64.wrap x = x := Sp.u64_wrap_in _ hx1 (by omega)
  clear hsz hkm
  go_region_held3 (fun w' => Below w.heap.size w w') (first | assumption | (apply below_drewN; assumption) | (apply Below.drew; assumption)) (first | (go_at_call 27; refine (Calls.since (by assumption) (rof2_any _ _ (by omega) (by omega))).mono ?_; rintro e w7 ⟨rfl, HB2⟩))
  clear HB
  rw [HC.out]
  obtain ⟨sc1, sc2⟩ := Sp.sumB_bd c
  have zc : c.size ≤ 140737488355328 := by
    have h1 := Sp.repl_size a k (Sp.ofB x 2) (Sp.ofB_size _ _) (by have := HK.out; have := Hsz.out; omega)
    have h2 : (Sp.repl a k (Sp.ofB x 2)) = c := HC.out
    rw [h2] at h1; omega
  clear kz3 kz4 vk1 vk2 vk3 vk4 vk5
  go_wp2_with fail
  refine (add1 c _ _ w HB2 (by simp) zc).mono ?_; clear HB2
  rintro e w8 ⟨rfl, HB⟩
  go_wp2_with fail
  refine (add1 a _ _ w HB (by simp) (by omega)).mono ?_; clear HB
  rintro e w8 ⟨rfl, HB⟩
  go_wp2_with fail
  refine (Calls.since HB (alive02_any _)).mono ?_; clear HB
  rintro e w9 ⟨rfl, HB⟩
  go_wp2_with fail
  go_ret
  exact ⟨rfl, HB⟩

set_option maxHeartbeats 1000000 in
set_option maxRecDepth 100000 in
theorem sumWords_o_diff2 (a0 a b : ByteArray) (p x : Int) (m : Nat) (w : World) (hs1 : (a0.size : Int) ≤ 4096) (hs2 : (b.size : Int) ≤ 4096) (hp1 : 0 ≤ p) (hp2 : p ≤ 65535) (hx1 : 0 ≤ x) (hx2 : x ≤ 65535) (hs : a0.extract 0 (m * 2) = a) (hm : a0.size / 2 = m) (he : ((b.size : Int) % 2 == 0) = false) (hz : ((a.size : Int) == 0) = false) (k : Nat) (hk : 2 * (p % (m : Int)) = (k : Int)) (hkm : k + 2 ≤ 2 * m) (c : ByteArray) (hc : a.extract 0 k ++ Sp.ofB x 2 ++ a.extract (k + 2) a.size = c) (W : Int) (hW : Sp.word a k = W) (hw1 : 0 ≤ W) (hw2 : W ≤ 65535) (q1 : (W == x) = false) (q2 : (W % 65535 == 0) = true) (q3 : (x % 65535 == 0) = false) (q5 : (Sp.sumB c == Sp.sumB a) = false) :
    Calls Try.prog 5 #[.string a0, .string b, .int .u16 p, .int .u16 x] w fun e w' => e = .returned (.bool true) ∧ Below w.heap.size w w' := by
  have hsz : a.size = 2 * m := by rw [← hs, ByteArray.size_extract]; omega
  have hle : m * 2 ≤ a0.size := by omega
  have e0 : (a0.size : Int) / 2 = (m : Int) := by omega
  have e1 : (a.size : Int) / 2 = (m : Int) := by omega
  have Hsz := hid hsz
  have g1 : ¬ (m : Int) = 0 := by omega
  have g2 : ((m : Int) == 0) = false := by simp; omega
  have HC := hid hc
  have HW := hid hW
  have HK := hid hkm
  have wk : wrap64 (k : Int) = k := IntWalk.wrap64_in _ ⟨by omega, by omega⟩
  clear hc hW hkm
  clear hm hsz
  have HB := Below.refl w.heap.size w
  go_enter Try.func5, Try.ntmps5
  go_wp2_with fail
  rw [hs]
  clear hs e0
  have za : a.size ≤ 4096 := by have := Hsz.out; omega
  obtain ⟨sb1, sb2⟩ := Sp.sumB_bd a
  have zab : (a ++ b).size ≤ 140737488355328 := by rw [ByteArray.size_append]; omega
  have zba : (b ++ a).size ≤ 140737488355328 := by rw [ByteArray.size_append]; omega
  go_wp2_with fail
  refine (add2 a b _ _ w HB (by simp) zab).mono ?_; clear HB
  rintro e w1 ⟨rfl, HB⟩
  go_wp2_with fail
  refine (add1 (a ++ b) _ _ w HB (by simp) zab).mono ?_; clear HB
  rintro e w2 ⟨rfl, HB⟩
  go_wp2_with fail
  refine (sumOf1 a _ _ w HB (by simp) (by omega)).mono ?_; clear HB
  rintro e w5 ⟨rfl, HB⟩
  go_wp2_with fail
  refine (add1 a _ _ w HB (by simp) (by omega)).mono ?_; clear HB
  rintro e w6 ⟨rfl, HB⟩
  go_wp2_with fail
  have hsz := Hsz.out
  have hkm := HK.out
  have kk1 : (0 : Int) ≤ (k : Int) := by omega
  have kk2 : (k : Int) < a.size := by omega
  have kk3 : (0 : Int) ≤ (k : Int) + 1 := by omega
  have kk4 : (k : Int) + 1 < a.size := by omega
  have uk1 : IntKind.i64.wrap ((k : Int) + 1) = (k : Int) + 1 := IntWalk.i64_in _ (by omega)
  have uk2 : ((k : Int) + 1).toNat = k + 1 := by omega
  have uk3 : k < a.size := by omega
  have uk4 : k + 1 < a.size := by omega
  clear hsz hkm
  go_wp2_with fail
  go_quiet (fail)
  go_wp2_with fail
  rw [Sp.word_walk a k uk4, HW.out]
  have HB := below_drewN HB nq
  have hsz := Hsz.out
  have hkm := HK.out
  have kz3 : ¬ 9223372036854775807 < min k a.size + (Sp.ofB x 2).size := by rw [Sp.ofB_size]; omega
  have kz4 : ¬ 9223372036854775807 < min k a.size + (Sp.ofB x 2).size + (a.size - (k + 2)) := by rw [Sp.ofB_size]; omega
  have vk1 : (k : Int) ≤ a.size := by omega
  have vk2 : (k : Int) + 2 ≤ a.size := by omega
  have vk3 : IntKind.i64.wrap ((k : Int) + 2) = (k : Int) + 2 := IntWalk.i64_in _ (by omega)
  have vk4 : (0 : Int) ≤ (k : Int) + 2 := by omega
  have vk5 : ((k : Int) + 2).toNat = k + 2 := by omega
  have ux : IntKind.u64.wrap x = x := Sp.u64_wrap_in _ hx1 (by omega)
  clear hsz hkm
  go_region_held3 (fun w' => Below w.heap.size w w') (first | assumption | (apply below_drewN; assumption) | (apply Below.drew; assumption)) (first | (go_at_call 27; refine (Calls.since (by assumption) (rof2_any _ _ (by omega) (by omega))).mono ?_; rintro e w7 ⟨rfl, HB2⟩))
  clear HB
  rw [HC.out]
  obtain ⟨sc1, sc2⟩ := Sp.sumB_bd c
  have zc : c.size ≤ 140737488355328 := by
    have h1 := Sp.repl_size a k (Sp.ofB x 2) (Sp.ofB_size _ _) (by have := HK.out; have := Hsz.out; omega)
    have h2 : (Sp.repl a k (Sp.ofB x 2)) = c := HC.out
    rw [h2] at h1; omega
  clear kz3 kz4 vk1 vk2 vk3 vk4 vk5
  go_wp2_with fail
  refine (add1 c _ _ w HB2 (by simp) zc).mono ?_; clear HB2
  rintro e w8 ⟨rfl, HB⟩
  go_wp2_with fail
  refine (add1 a _ _ w HB (by simp) (by omega)).mono ?_; clear HB
  rintro e w8 ⟨rfl, HB⟩
  go_wp2_with fail
  refine (Calls.since HB (alive02_any _)).mono ?_; clear HB
  rintro e w9 ⟨rfl, HB⟩
  go_wp2_with fail
  go_ret
  exact ⟨rfl, HB⟩
end Go.Proofs.Ytlpeefemffmpmaa
