/- Contracts of sum.Turn, and of the reference's functions. -/
import Derived.Test.YtlpeefemffmpmaaRef
namespace Go.Proofs.Ytlpeefemffmpmaa
open Go.RowKit
set_option linter.unusedVariables false

theorem Calls.since {P : Program} {f : FuncId} {args : Array Value} {W w0 : World} {v : Value} (h : Below w0.heap.size w0 W)
    (c : Calls P f args W fun e w' => e = .returned v ∧ Below W.heap.size W w') : Calls P f args W fun e w' => e = .returned v ∧ Below w0.heap.size w0 w' :=
  c.mono fun _ _ ⟨he, hb⟩ => ⟨he, h.trans (hb.mono h.size)⟩

set_option maxHeartbeats 400000 in
theorem turn_any (c a b : Int) (w : World) (hc : 0 ≤ c) (hc2 : c ≤ 65535) (ha : 0 ≤ a) (ha2 : a ≤ 65535) (hb : 0 ≤ b) (hb2 : b ≤ 65535) :
    Calls Try.prog 23 #[.int .u16 c, .int .u16 a, .int .u16 b] w fun e w' => e = .returned (.int .u16 (Sp.turnV c a b)) ∧ w = w' := by
  have e1 := Sp.u16_not c hc hc2
  have e2 := Sp.u16_not a ha ha2
  go_enter Try.func23, Try.ntmps23
  have e3 := hid (Sp.turn_walk c a b hc hc2 ha ha2 hb hb2)
  go_wp2
  go_ret
  exact ⟨by rw [← e3.out]; rfl, rfl⟩

set_option maxHeartbeats 400000 in
theorem rsumOf_any (s : ByteArray) (w : World) (hs : s.size ≤ maxLen) :
    Calls Try.prog 20 #[.string s] w fun e w' => e = .returned (.int .u16 (65535 - Sp.sumB s)) ∧ w = w' := by
  obtain ⟨h1, h2⟩ := Sp.sumB_bd s
  go_enter Try.func20, Try.ntmps20
  go_wp2_with (go_at_call 18; refine (radd_any _ _ hs).mono ?_; rintro e w' ⟨rfl, rfl⟩)
  go_ret
  exact ⟨rfl, rfl⟩

set_option maxHeartbeats 400000 in
theorem rright_any (s : ByteArray) (w : World) (hs : s.size ≤ maxLen) :
    Calls Try.prog 22 #[.string s] w fun e w' => e = .returned (.bool (Sp.sumB s == 65535)) ∧ w = w' := by
  go_enter Try.func22, Try.ntmps22
  go_wp2_with (go_at_call 18; refine (radd_any _ _ hs).mono ?_; rintro e w' ⟨rfl, rfl⟩)
  go_ret
  exact ⟨rfl, rfl⟩

set_option maxHeartbeats 400000 in
theorem rhead_any (x y p n : Int) (w : World) (hx : 0 ≤ x) (hx2 : x < 4294967296) (hy : 0 ≤ y) (hy2 : y < 4294967296) (hp : 0 ≤ p) (hp2 : p < 256) :
    Calls Try.prog 26 #[.int .u32 x, .int .u32 y, .int .u8 p, .int .i64 n] w fun e w' => e = .returned (.string (Sp.headB x y p (IntKind.u64.wrap n))) ∧ Below w.heap.size w w' := by
  have s1 := Sp.ofB_size x 4
  have s2 := Sp.ofB_size y 4
  have s3 := Sp.ofB_size p 2
  have s4 := Sp.ofB_size (IntKind.u64.wrap n) 2
  have HB := Below.refl w.heap.size w
  go_enter Try.func26, Try.ntmps26
  go_wp2_with fail
  refine (Calls.since HB (rof4_any x w hx (by omega))).mono ?_; clear HB
  rintro e w1 ⟨rfl, HB⟩
  go_wp2_with fail
  refine (Calls.since HB (rof4_any y _ hy (by omega))).mono ?_; clear HB
  rintro e w2 ⟨rfl, HB⟩
  go_wp2_with fail
  refine (Calls.since HB (rof2_any p _ hp (by omega))).mono ?_; clear HB
  rintro e w3 ⟨rfl, HB⟩
  go_wp2_with fail
  refine (Calls.since HB (rof2_any _ _ (Sp.u64_wrap_bd n).1 (Sp.u64_wrap_bd n).2)).mono ?_; clear HB
  rintro e w4 ⟨rfl, HB⟩
  go_wp2_with fail
  go_ret
  exact ⟨rfl, HB⟩

set_option maxHeartbeats 400000 in
theorem rturn_any (c a b : Int) (w : World) (hc : 0 ≤ c) (hc2 : c ≤ 65535) (ha : 0 ≤ a) (ha2 : a ≤ 65535) (hb : 0 ≤ b) (hb2 : b ≤ 65535) :
    Calls Try.prog 24 #[.int .u16 c, .int .u16 a, .int .u16 b] w fun e w' => e = .returned (.int .u16 (65535 - Sp.sumB (Sp.ofB (65535 - c) 2 ++ Sp.ofB (65535 - a) 2 ++ Sp.ofB b 2))) ∧ Below w.heap.size w w' := by
  have s1 := Sp.ofB_size (65535 - c) 2
  have s2 := Sp.ofB_size (65535 - a) 2
  have s3 := Sp.ofB_size b 2
  have HB := Below.refl w.heap.size w
  go_enter Try.func24, Try.ntmps24
  go_wp2_with fail
  refine (Calls.since HB (rof2_any _ w (by omega) (by omega))).mono ?_; clear HB
  rintro e w1 ⟨rfl, HB⟩
  go_wp2_with fail
  refine (Calls.since HB (rof2_any _ _ (by omega) (by omega))).mono ?_; clear HB
  rintro e w2 ⟨rfl, HB⟩
  go_wp2_with fail
  refine (Calls.since HB (rof2_any _ _ hb (by omega))).mono ?_; clear HB
  rintro e w3 ⟨rfl, HB⟩
  go_wp2_with fail
  refine (rsumOf_any _ _ (by simp only [ByteArray.size_append, s1, s2, s3]; decide)).mono ?_
  rintro e w4 ⟨rfl, rfl⟩
  go_wp2_with fail
  go_ret
  exact ⟨rfl, HB⟩
end Go.Proofs.Ytlpeefemffmpmaa
