/- Walk of law SumTurns. -/
import Derived.Test.YtlpeefemffmpmaaAlive02
namespace Go.Proofs.Ytlpeefemffmpmaa
open Go.RowKit
set_option linter.unusedVariables false

set_option maxHeartbeats 1000000 in
set_option maxRecDepth 100000 in
theorem sumTurns_walk (c a b x y : Int) (w : World) (hc : 0 ≤ c) (hc2 : c ≤ 65535) (ha : 0 ≤ a) (ha2 : a ≤ 65535) (hb : 0 ≤ b) (hb2 : b ≤ 65535) (hx : 0 ≤ x) (hx2 : x ≤ 65535) (hy : 0 ≤ y) (hy2 : y ≤ 65535) :
    Calls Try.prog 6 #[.int .u16 c, .int .u16 a, .int .u16 b, .int .u16 x, .int .u16 y] w fun e w' => e = .returned (.bool true) ∧ Below w.heap.size w w' := by
  have t1 := Sp.turnV_bd c a b hc hc2 ha ha2 hb hb2
  have t2 := Sp.turnV_bd (Sp.turnV c a b) b a t1.1 t1.2 hb hb2 ha ha2
  have t3 := Sp.turnV_bd (Sp.turnV c a b) x y t1.1 t1.2 hx hx2 hy hy2
  have t4 := Sp.turnV_bd c x y hc hc2 hx hx2 hy hy2
  have t5 := Sp.turnV_bd (Sp.turnV c x y) a b t4.1 t4.2 ha ha2 hb hb2
  have l1 := Sp.turn_back c a b hc hc2 ha ha2 hb hb2
  have l2 := Sp.turn_swap c a b x y hc hc2 ha ha2 hb hb2 hx hx2 hy hy2
  obtain ⟨T, hT⟩ : ∃ T, Sp.turnV c a b = T := ⟨_, rfl⟩
  obtain ⟨B, hB⟩ : ∃ B, Sp.turnV T b a = B := ⟨_, rfl⟩
  obtain ⟨U, hU⟩ : ∃ U, Sp.turnV c x y = U := ⟨_, rfl⟩
  obtain ⟨p, hp⟩ : ∃ p, Sp.turnV T x y = p := ⟨_, rfl⟩
  obtain ⟨q, hq⟩ : ∃ q, Sp.turnV U a b = q := ⟨_, rfl⟩
  rw [hT] at t1 t2 t3 l1 l2
  rw [hU] at t4 t5 l2
  rw [hB] at t2 l1
  rw [hp] at t3 l2
  rw [hq] at t5 l2
  obtain ⟨t1a, t1b⟩ := t1
  obtain ⟨t2a, t2b⟩ := t2
  obtain ⟨t3a, t3b⟩ := t3
  obtain ⟨t4a, t4b⟩ := t4
  obtain ⟨t5a, t5b⟩ := t5
  have HT := hid hT
  have HB := hid hB
  have HU := hid hU
  have Hp := hid hp
  have Hq := hid hq
  clear hT hB hU hp hq
  have main : ∀ (b1 b2 b3 b4 b5 b6 : Bool) (k1 : (B != c) = b1) (k2 : (B % 65535 != 0) = b2) (k3 : (c % 65535 != 0) = b3) (k4 : (p == q) = b4) (k5 : (p % 65535 == 0) = b5) (k6 : (q % 65535 == 0) = b6)
      (kk : (b1 && (b2 || b3)) = false) (kk2 : (b4 || (b5 && b6)) = true), Calls Try.prog 6 #[.int .u16 c, .int .u16 a, .int .u16 b, .int .u16 x, .int .u16 y] w fun e w' => e = .returned (.bool true) ∧ Below w.heap.size w w' := by
    clear l1 l2
    intro b1 b2 b3 b4 b5 b6 k1 k2 k3 k4 k5 k6 kk kk2
    cases b1 <;> cases b2 <;> cases b3 <;> cases b4 <;> cases b5 <;> cases b6 <;> first | (cases kk; done) | (cases kk2; done) | skip
    all_goals clear kk kk2
    all_goals
      go_enter Try.func6, Try.ntmps6
      go_wp2_with fail
      refine (turn_any c a b _ hc hc2 ha ha2 hb hb2).mono ?_
      rw [HT.out]
      rintro e w1 ⟨rfl, rfl⟩
      go_wp2_with fail
      refine (turn_any _ b a _ t1a t1b hb hb2 ha ha2).mono ?_
      rw [HB.out]
      rintro e w1 ⟨rfl, rfl⟩
      go_wp2_with fail
      refine (turn_any c a b _ hc hc2 ha ha2 hb hb2).mono ?_
      rw [HT.out]
      rintro e w1 ⟨rfl, rfl⟩
      go_wp2_with fail
      refine (turn_any _ x y _ t1a t1b hx hx2 hy hy2).mono ?_
      rw [Hp.out]
      rintro e w1 ⟨rfl, rfl⟩
      go_wp2_with fail
      refine (turn_any c x y _ hc hc2 hx hx2 hy hy2).mono ?_
      rw [HU.out]
      rintro e w1 ⟨rfl, rfl⟩
      go_wp2_with fail
      refine (turn_any _ a b _ t4a t4b ha ha2 hb hb2).mono ?_
      rw [Hq.out]
      rintro e w1 ⟨rfl, rfl⟩
      go_wp2_with fail
      refine (alive02_any w).mono ?_
      rintro e w1 ⟨rfl, hb⟩
      go_wp2_with fail
      go_ret
      exact ⟨rfl, hb⟩
  refine main _ _ _ _ _ _ rfl rfl rfl rfl rfl rfl ?_ ?_
  · rcases l1 with h | ⟨h, h'⟩ <;> simp [h]
    simp [h']
  · rcases l2 with h | ⟨h, h'⟩ <;> simp [h]
    simp [h']

theorem sumTurns_law (c a b x y : Int) (w : World) (hc : 0 ≤ c ∧ c ≤ 65535) (ha : 0 ≤ a ∧ a ≤ 65535) (hb : 0 ≤ b ∧ b ≤ 65535) (hx : 0 ≤ x ∧ x ≤ 65535) (hy : 0 ≤ y ∧ y ≤ 65535) :
    Calls Try.prog 6 #[.int .u16 c, .int .u16 a, .int .u16 b, .int .u16 x, .int .u16 y] w fun e w' => e = .returned (.bool true) ∧ Below w.heap.size w w' :=
  sumTurns_walk c a b x y w hc.1 hc.2 ha.1 ha.2 hb.1 hb.2 hx.1 hx.2 hy.1 hy.2
end Go.Proofs.Ytlpeefemffmpmaa
