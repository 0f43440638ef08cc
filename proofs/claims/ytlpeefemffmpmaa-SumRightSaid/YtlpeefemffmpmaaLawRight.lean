/- Walk of law SumRight. -/
import Derived.Test.YtlpeefemffmpmaaAlive02
import Derived.Test.YtlpeefemffmpmaaSumP
import Derived.Deep.QuietTactic
import Derived.BigQuiet
import Derived.Deep.RegionHeld3
namespace Go.Proofs.Ytlpeefemffmpmaa
open Go.RowKit
set_option linter.unusedVariables false

set_option maxHeartbeats 1000000 in
set_option maxRecDepth 100000 in
theorem sumRight_walk (s0 s : ByteArray) (a b x : Int) (i k m : Nat) (w : World) (hs1 : (4 : Int) ≤ s0.size) (hs2 : (s0.size : Int) ≤ 4096) (ha1 : 0 ≤ a) (ha2 : a ≤ 65535)
    (hb1 : 0 ≤ b) (hb2 : b ≤ 65535) (hx1 : 0 ≤ x) (hx2 : x ≤ 65535) (hs : s0.extract 0 (m * 2) = s) (hm : s0.size / 2 = m) (hi : 2 * (a % (m : Int)) = (i : Int)) (hk : 2 * (b % (m : Int)) = (k : Int)) (hik : ¬ i = k) (him : i + 2 ≤ 2 * m) (hkm : k + 2 ≤ 2 * m) :
    Calls Try.prog 4 #[.string s0, .int .u16 a, .int .u16 b, .int .u16 x] w fun e w' => e = .returned (.bool true) ∧ Below w.heap.size w w' := by
  have hm2 : 2 ≤ m := by omega
  have g1 : ¬ (m : Int) = 0 := by omega
  have g2 : ((m : Int) == 0) = false := by simp; omega
  have g3 : ((i : Int) == k) = false := by simp; omega
  have hsz : s.size = 2 * m := by rw [← hs, ByteArray.size_extract]; omega
  have hle : m * 2 ≤ s0.size := by omega
  have e0 : (s0.size : Int) / 2 = (m : Int) := by omega
  have e1 : (s.size : Int) / 2 = (m : Int) := by omega
  have Hsz := hid hsz
  clear hm hik hsz
  go_enter Try.func4, Try.ntmps4
  go_wp2_with fail
  rw [hs]
  clear hs e0
  have hi3 := hid him
  have hsz := Hsz.out
  have wi : wrap64 (i : Int) = i := IntWalk.wrap64_in _ ⟨by omega, by omega⟩
  have wk : wrap64 (k : Int) = k := IntWalk.wrap64_in _ ⟨by omega, by omega⟩
  have wi2 : wrap64 ((i : Int) + 2) = (i : Int) + 2 := IntWalk.wrap64_in _ ⟨by omega, by omega⟩
  have li : (i : Int) ≤ s.size := by omega
  have li2 : (i : Int) + 2 ≤ s.size := by omega
  have z1 : (s.extract 0 i).size ≤ 4096 := by rw [ByteArray.size_extract]; omega
  have z2 : (s.extract (i + 2) s.size).size ≤ 4096 := by rw [ByteArray.size_extract]; omega
  have HB := Below.refl w.heap.size w
  obtain ⟨s1, h1⟩ : ∃ s1, s.extract 0 i ++ ⟨#[0, 0]⟩ ++ s.extract (i + 2) s.size = s1 := ⟨_, rfl⟩
  have y1 : s1.size = s.size := by rw [← h1, ByteArray.size_append, ByteArray.size_append, ByteArray.size_extract, ByteArray.size_extract]; show _ + 2 + _ = _; omega
  have y1' : s1.size ≤ 4096 := by omega
  have H1 := hid h1
  have Y1 := hid y1
  have hc := Sp.sumB_bd s1
  obtain ⟨c, hc'⟩ : ∃ c, 65535 - Sp.sumB s1 = c := ⟨_, rfl⟩
  have hc1 : 0 ≤ c := by omega
  have hc2 : c ≤ 65535 := by omega
  have Hc := hid hc'
  clear hsz h1 y1 hc hc'
  go_quiet (fail)
  go_wp2_with fail
  go_quiet (fail)
  go_wp2_with fail
  rw [H1.out]
  refine (sumOf1 s1 _ _ w (by repeat (first | exact HB | apply below_drewN)) (by simp) (by omega)).mono ?_; clear HB
  rw [Hc.out]
  rintro e w1 ⟨rfl, HB⟩
  have hi4 := hi3.out
  have y2 := Y1.out
  have hsz := Hsz.out
  have v1 : (i : Int) ≤ s1.size := by omega
  have v2 : (i : Int) + 2 ≤ s1.size := by omega
  have z3 : ¬ 9223372036854775807 < min i s1.size + (Sp.ofB c 2).size := by rw [Sp.ofB_size]; omega
  have z4 : ¬ 9223372036854775807 < min i s1.size + (Sp.ofB c 2).size + (s1.size - (i + 2)) := by rw [Sp.ofB_size]; omega
  have ui2 : IntKind.i64.wrap ((i : Int) + 2) = (i : Int) + 2 := IntWalk.i64_in _ (by omega)
  have ui3 : (0 : Int) ≤ (i : Int) + 2 := by omega
  have ui4 : ((i : Int) + 2).toNat = i + 2 := by omega
  have uc : IntKind.u64.wrap c = c := Sp.u64_wrap_in _ hc1 (by omega)
  clear hi4 y2 hsz z1 z2 li li2
  go_wp2_with fail
  go_region_held3 (fun w' => Below w.heap.size w w') (first | assumption | (apply below_drewN; assumption) | (apply Below.drew; assumption)) (first | (go_at_call 27; refine (Calls.since (by assumption) (rof2_any _ _ (by omega) (by omega))).mono ?_; rintro e w2 ⟨rfl, HB2⟩))
  clear HB
  obtain ⟨s2, h2⟩ : ∃ s2, s1.extract 0 i ++ Sp.ofB c 2 ++ s1.extract (i + 2) s1.size = s2 := ⟨_, rfl⟩
  rw [h2]
  have y2 : s2.size = s1.size := by rw [← h2, ByteArray.size_append, ByteArray.size_append, ByteArray.size_extract, ByteArray.size_extract, Sp.ofB_size]; omega
  have hr := Sp.right_put s s1 s2 i m c Hsz.out H1.out Hc.out h2 (by omega) hi3.out
  have y2' : s2.size ≤ 4096 := by omega
  have H2 := hid h2
  have Y2 := hid y2
  clear h2 y2
  go_wp2_with fail
  refine (right1 s2 _ _ w HB2 (by simp) (by omega)).mono ?_; clear HB2
  rw [hr]
  rintro e w1 ⟨rfl, HB⟩
  have hk4 := hkm
  have hsz := Hsz.out
  have y1 := Y1.out
  have y2 := Y2.out
  have kk1 : (0 : Int) ≤ (k : Int) := by omega
  have kk2 : (k : Int) < s2.size := by omega
  have kk3 : (0 : Int) ≤ (k : Int) + 1 := by omega
  have kk4 : (k : Int) + 1 < s2.size := by omega
  have uk1 : IntKind.i64.wrap ((k : Int) + 1) = (k : Int) + 1 := IntWalk.i64_in _ (by omega)
  have uk2 : ((k : Int) + 1).toNat = k + 1 := by omega
  have uk3 : k < s2.size := by omega
  have uk4 : k + 1 < s2.size := by omega
  clear hsz y1 y2 hk4 z3 z4 v1 v2 y1'
  go_wp2_with fail
  go_quiet (fail)
  go_wp2_with fail
  have hww := Sp.word_bd s2 k
  obtain ⟨W, hW⟩ : ∃ W, Sp.word s2 k = W := ⟨_, rfl⟩
  obtain ⟨r, hrr⟩ : ∃ r, Sp.turnV c W x = r := ⟨_, rfl⟩
  have hrb := Sp.turnV_bd c W x hc1 hc2 (by omega) (by omega) hx1 hx2
  rw [hrr] at hrb
  obtain ⟨hr1, hr2⟩ := hrb
  obtain ⟨hw1, hw2⟩ : 0 ≤ W ∧ W ≤ 65535 := by omega
  rw [Sp.word_walk s2 k uk4, hW]
  have HW := hid hW
  have HR := hid hrr
  have HZ := hid hr
  clear hW hrr hww hr
  refine (turn_any c W x _ hc1 hc2 hw1 hw2 hx1 hx2).mono ?_
  rw [HR.out]
  rintro e w2 ⟨rfl, rfl⟩
  have hsz := Hsz.out
  have y1 := Y1.out
  have y2 := Y2.out
  have kz3 : ¬ 9223372036854775807 < min k s2.size + (Sp.ofB x 2).size := by rw [Sp.ofB_size]; omega
  have kz4 : ¬ 9223372036854775807 < min k s2.size + (Sp.ofB x 2).size + (s2.size - (k + 2)) := by rw [Sp.ofB_size]; omega
  have vk1 : (k : Int) ≤ s2.size := by omega
  have vk2 : (k : Int) + 2 ≤ s2.size := by omega
  have vk3 : IntKind.i64.wrap ((k : Int) + 2) = (k : Int) + 2 := IntWalk.i64_in _ (by omega)
  have vk4 : (0 : Int) ≤ (k : Int) + 2 := by omega
  have vk5 : ((k : Int) + 2).toNat = k + 2 := by omega
  have ux : IntKind.u64.wrap x = x := Sp.u64_wrap_in _ hx1 (by omega)
  clear hsz y1 y2
  go_wp2_with fail
  have HB := below_drewN HB nq
  go_region_held3 (fun w' => Below w.heap.size w w') (first | assumption | (apply below_drewN; assumption) | (apply Below.drew; assumption)) (first | (go_at_call 27; refine (Calls.since (by assumption) (rof2_any _ _ (by omega) (by omega))).mono ?_; rintro e w2 ⟨rfl, HB2⟩))
  clear HB
  obtain ⟨u, hu⟩ : ∃ u, s2.extract 0 k ++ Sp.ofB x 2 ++ s2.extract (k + 2) s2.size = u := ⟨_, rfl⟩
  rw [hu]
  have yu : u.size = s2.size := by have := Sp.repl_size s2 k (Sp.ofB x 2) (Sp.ofB_size _ _) (by omega); rw [← hu]; exact this
  have HU := hid hu
  have YU := hid yu
  have hsz := Hsz.out
  have y1 := Y1.out
  have y2 := Y2.out
  have kz3 : ¬ 9223372036854775807 < min i u.size + (Sp.ofB r 2).size := by rw [Sp.ofB_size]; omega
  have kz4 : ¬ 9223372036854775807 < min i u.size + (Sp.ofB r 2).size + (u.size - (i + 2)) := by rw [Sp.ofB_size]; omega
  have vi1 : (i : Int) ≤ u.size := by omega
  have vi2 : (i : Int) + 2 ≤ u.size := by omega
  have ux : IntKind.u64.wrap r = r := Sp.u64_wrap_in _ hr1 (by omega)
  clear hsz y1 y2 vk1 vk2 vk3 vk4 vk5 hu yu
  go_wp2_with fail
  go_region_held3 (fun w' => Below w.heap.size w w') (first | assumption | (apply below_drewN; assumption) | (apply Below.drew; assumption)) (first | (go_at_call 27; refine (Calls.since (by assumption) (rof2_any _ _ (by omega) (by omega))).mono ?_; rintro e w3 ⟨rfl, HB3⟩))
  clear HB2
  obtain ⟨u2, hu2⟩ : ∃ u2, u.extract 0 i ++ Sp.ofB r 2 ++ u.extract (i + 2) u.size = u2 := ⟨_, rfl⟩
  rw [hu2]
  have yu2 : u2.size ≤ 4096 := by
    have h1 := Sp.repl_size u i (Sp.ofB r 2) (Sp.ofB_size _ _) (by omega)
    have h2 := Y1.out
    have h3 := Y2.out
    have h4 := YU.out
    have h5 : (Sp.repl u i (Sp.ofB r 2)).size ≤ 4096 := by omega
    rw [← hu2]
    exact h5
  have hwi : Sp.word s2 i = c := by
    have e := H2.out
    have h2 := Y1.out
    rw [show s2 = Sp.repl s1 i (Sp.ofB c 2) from e.symm]
    exact Sp.word_repl_at s1 i c hc1 hc2 (by have := hi3.out; have := Hsz.out; omega)
  have fin := Sp.right_turned s s2 u u2 i k m c x r (by rw [Y2.out, Y1.out, Hsz.out]) HZ.out hwi HU.out hu2 (by rw [HW.out]; exact HR.out) hc1 hc2 hx1 hx2 (by omega) (by omega) hi3.out hkm (by intro h; rw [h] at g3; simp at g3)
  clear hu2 hwi kz3 kz4
  rcases fin with h | h
  · have h1 : (Sp.sumB u2 == 65535) = true := by simp [h]
    clear h
    go_wp2_with fail
    refine (right1 u2 _ _ w HB3 (by simp) (by omega)).mono ?_; clear HB3
    rw [h1]
    rintro e w4 ⟨rfl, HB⟩
    go_wp2_with fail
    refine (Calls.since HB (alive02_any _)).mono ?_; clear HB
    rintro e w5 ⟨rfl, HB⟩
    go_wp2_with fail
    go_ret
    exact ⟨rfl, HB⟩
  · have h1 : (Sp.sumB u2 == 65535) = false := by simp [h]
    have h2 : (Sp.sumB u2 == 0) = true := by simp [h]
    clear h
    go_wp2_with fail
    refine (right1 u2 _ _ w HB3 (by simp) (by omega)).mono ?_; clear HB3
    rw [h1]
    rintro e w4 ⟨rfl, HB⟩
    go_wp2_with fail
    refine (add1 u2 _ _ w HB (by simp) (by omega)).mono ?_; clear HB
    rintro e w5 ⟨rfl, HB⟩
    go_wp2_with fail
    refine (Calls.since HB (alive02_any _)).mono ?_; clear HB
    rintro e w6 ⟨rfl, HB⟩
    go_wp2_with fail
    go_ret
    exact ⟨rfl, HB⟩

set_option maxHeartbeats 400000 in
theorem sumRight_short (s0 : ByteArray) (a b x : Int) (w : World) (hz : s0.size ≤ maxLen) (h : (4096 : Int) < s0.size ∨ (s0.size : Int) < 4) :
    Calls Try.prog 4 #[.string s0, .int .u16 a, .int .u16 b, .int .u16 x] w fun e w' => e = .returned (.bool true) ∧ Below w.heap.size w w' := by
  unfold maxLen at hz
  have h1 : (decide ((4096 : Int) < s0.size) || decide ((s0.size : Int) < 4)) = true := by simpa using h
  by_cases hb : (4096 : Int) < s0.size
  · go_enter Try.func4, Try.ntmps4
    go_wp2_with fail
    refine (alive02_any _).mono ?_
    rintro e w1 ⟨rfl, HB⟩
    go_wp2_with fail
    go_ret
    exact ⟨rfl, HB⟩
  · have h2 : (s0.size : Int) < 4 := by omega
    go_enter Try.func4, Try.ntmps4
    go_wp2_with fail
    refine (alive02_any _).mono ?_
    rintro e w1 ⟨rfl, HB⟩
    go_wp2_with fail
    go_ret
    exact ⟨rfl, HB⟩

set_option maxHeartbeats 400000 in
set_option maxRecDepth 100000 in
theorem sumRight_same (s0 s : ByteArray) (a b x : Int) (i m : Nat) (w : World) (hs1 : (4 : Int) ≤ s0.size) (hs2 : (s0.size : Int) ≤ 4096) (ha1 : 0 ≤ a) (ha2 : a ≤ 65535)
    (hb1 : 0 ≤ b) (hb2 : b ≤ 65535) (hs : s0.extract 0 (m * 2) = s) (hm : s0.size / 2 = m) (hi : 2 * (a % (m : Int)) = (i : Int)) (hk : 2 * (b % (m : Int)) = (i : Int)) (him : i + 2 ≤ 2 * m) :
    Calls Try.prog 4 #[.string s0, .int .u16 a, .int .u16 b, .int .u16 x] w fun e w' => e = .returned (.bool true) ∧ Below w.heap.size w w' := by
  have hm2 : 2 ≤ m := by omega
  have g1 : ¬ (m : Int) = 0 := by omega
  have g2 : ((m : Int) == 0) = false := by simp; omega
  have g3 : ((i : Int) == i) = true := by simp
  have hsz : s.size = 2 * m := by rw [← hs, ByteArray.size_extract]; omega
  have hle : m * 2 ≤ s0.size := by omega
  have e0 : (s0.size : Int) / 2 = (m : Int) := by omega
  have e1 : (s.size : Int) / 2 = (m : Int) := by omega
  have wi : wrap64 (i : Int) = i := IntWalk.wrap64_in _ ⟨by omega, by omega⟩
  clear hm hsz
  go_enter Try.func4, Try.ntmps4
  go_wp2_with fail
  rw [hs]
  clear hs e0
  go_quiet (fail)
  go_wp2_with fail
  refine (alive02_any _).mono ?_
  rintro e w1 ⟨rfl, HB⟩
  go_wp2_with fail
  go_ret
  exact ⟨rfl, (below_drewN (Below.refl _ _) _).trans HB⟩

theorem sumRight_law (s0 : ByteArray) (a b x : Int) (w : World) (hz : s0.size ≤ maxLen) (ha : 0 ≤ a ∧ a ≤ 65535) (hb : 0 ≤ b ∧ b ≤ 65535) (hx : 0 ≤ x ∧ x ≤ 65535) :
    Calls Try.prog 4 #[.string s0, .int .u16 a, .int .u16 b, .int .u16 x] w fun e w' => e = .returned (.bool true) ∧ Below w.heap.size w w' := by
  by_cases h : (4096 : Int) < s0.size ∨ (s0.size : Int) < 4
  · exact sumRight_short s0 a b x w hz h
  · have hm2 : 2 ≤ s0.size / 2 := by omega
    have hm : 0 < ((s0.size / 2 : Nat) : Int) := by omega
    have a1 := Int.emod_nonneg a (show ((s0.size / 2 : Nat) : Int) ≠ 0 by omega)
    have a2 := Int.emod_lt_of_pos a hm
    have b1 := Int.emod_nonneg b (show ((s0.size / 2 : Nat) : Int) ≠ 0 by omega)
    have b2 := Int.emod_lt_of_pos b hm
    by_cases hik : (2 * (a % ((s0.size / 2 : Nat) : Int))).toNat = (2 * (b % ((s0.size / 2 : Nat) : Int))).toNat
    · exact sumRight_same s0 _ a b x (2 * (a % ((s0.size / 2 : Nat) : Int))).toNat (s0.size / 2) w (by omega) (by omega) ha.1 ha.2 hb.1 hb.2 rfl rfl (by omega) (by omega) (by omega)
    · exact sumRight_walk s0 _ a b x (2 * (a % ((s0.size / 2 : Nat) : Int))).toNat (2 * (b % ((s0.size / 2 : Nat) : Int))).toNat (s0.size / 2) w (by omega) (by omega) ha.1 ha.2 hb.1 hb.2 hx.1 hx.2 rfl rfl (by omega) (by omega) hik (by omega) (by omega)
end Go.Proofs.Ytlpeefemffmpmaa
