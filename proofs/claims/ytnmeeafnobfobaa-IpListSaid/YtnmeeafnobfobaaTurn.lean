/- Contracts of sum.Turn, and of the reference's functions. -/
import Derived.Test.YtnmeeafnobfobaaRef
namespace Go.Proofs.Ytnmeeafnobfobaa
open Go.RowKit
set_option linter.unusedVariables false

theorem strs1 (w : World) (t : TypeId) (a : ByteArray) : Strs (w.alloc (.cells #[.string a] t)) (some ⟨w.heap.size, 0, none⟩) 1 [a] :=
  .inr ⟨_, _, rfl, by simp, by simp, fun j x hj => by
    rw [World.cell?_alloc_new]
    match j, hj with
    | 0, hj => simp at hj; subst hj; rfl
    | j + 1, hj => simp at hj⟩
theorem strs2 (w : World) (t : TypeId) (a b : ByteArray) : Strs (w.alloc (.cells #[.string a, .string b] t)) (some ⟨w.heap.size, 0, none⟩) 2 [a, b] :=
  .inr ⟨_, _, rfl, by simp, by simp, fun j x hj => by
    rw [World.cell?_alloc_new]
    match j, hj with
    | 0, hj => simp at hj; subst hj; rfl
    | 1, hj => simp at hj; subst hj; rfl
    | j + 2, hj => simp at hj⟩

theorem strs3 (w : World) (t : TypeId) (a b c : ByteArray) : Strs (w.alloc (.cells #[.string a, .string b, .string c] t)) (some ⟨w.heap.size, 0, none⟩) 3 [a, b, c] :=
  .inr ⟨_, _, rfl, by simp, by simp, fun j x hj => by
    rw [World.cell?_alloc_new]
    match j, hj with
    | 0, hj => simp at hj; subst hj; rfl
    | 1, hj => simp at hj; subst hj; rfl
    | 2, hj => simp at hj; subst hj; rfl
    | j + 3, hj => simp at hj⟩
theorem strs4 (w : World) (t : TypeId) (a b c d : ByteArray) : Strs (w.alloc (.cells #[.string a, .string b, .string c, .string d] t)) (some ⟨w.heap.size, 0, none⟩) 4 [a, b, c, d] :=
  .inr ⟨_, _, rfl, by simp, by simp, fun j x hj => by
    rw [World.cell?_alloc_new]
    match j, hj with
    | 0, hj => simp at hj; subst hj; rfl
    | 1, hj => simp at hj; subst hj; rfl
    | 2, hj => simp at hj; subst hj; rfl
    | 3, hj => simp at hj; subst hj; rfl
    | j + 4, hj => simp at hj⟩
theorem Strs.at {w : World} {c b b' : Nat} {xs : List ByteArray} (h : Strs w (some ⟨b, 0, none⟩) c xs) (e : b' = b) : Strs w (some ⟨b', 0, none⟩) c xs := by rw [e]; exact h

theorem Calls.since {P : Program} {f : FuncId} {args : Array Value} {W w0 : World} {v : Value} (h : Below w0.heap.size w0 W)
    (c : Calls P f args W fun e w' => e = .returned v ∧ Below W.heap.size W w') : Calls P f args W fun e w' => e = .returned v ∧ Below w0.heap.size w0 w' :=
  c.mono fun _ _ ⟨he, hb⟩ => ⟨he, h.trans (hb.mono h.size)⟩

set_option maxHeartbeats 400000 in
theorem turn_any (c a b : Int) (w : World) (hc : 0 ≤ c) (hc2 : c ≤ 65535) (ha : 0 ≤ a) (ha2 : a ≤ 65535) (hb : 0 ≤ b) (hb2 : b ≤ 65535) :
    Calls Try.prog 71 #[.int .u16 c, .int .u16 a, .int .u16 b] w fun e w' => e = .returned (.int .u16 (Sp.turnV c a b)) ∧ w = w' := by
  have e1 := Sp.u16_not c hc hc2
  have e2 := Sp.u16_not a ha ha2
  go_enter Try.func71, Try.ntmps71
  have e3 := hid (Sp.turn_walk c a b hc hc2 ha ha2 hb hb2)
  go_wp2
  go_ret
  exact ⟨by rw [← e3.out]; rfl, rfl⟩

set_option maxHeartbeats 400000 in
theorem rsumOf_any (s : ByteArray) (w : World) (hs : s.size ≤ maxLen) :
    Calls Try.prog 47 #[.string s] w fun e w' => e = .returned (.int .u16 (65535 - Sp.sumB s)) ∧ w = w' := by
  obtain ⟨h1, h2⟩ := Sp.sumB_bd s
  go_enter Try.func47, Try.ntmps47
  go_wp2_with (go_at_call 79; refine (radd_any _ _ hs).mono ?_; rintro e w' ⟨rfl, rfl⟩)
  go_ret
  exact ⟨rfl, rfl⟩

set_option maxHeartbeats 400000 in
theorem rright_any (s : ByteArray) (w : World) (hs : s.size ≤ maxLen) :
    Calls Try.prog 50 #[.string s] w fun e w' => e = .returned (.bool (Sp.sumB s == 65535)) ∧ w = w' := by
  go_enter Try.func50, Try.ntmps50
  go_wp2_with (go_at_call 79; refine (radd_any _ _ hs).mono ?_; rintro e w' ⟨rfl, rfl⟩)
  go_ret
  exact ⟨rfl, rfl⟩

set_option maxHeartbeats 400000 in
theorem rturn_any (c a b : Int) (w : World) (hc : 0 ≤ c) (hc2 : c ≤ 65535) (ha : 0 ≤ a) (ha2 : a ≤ 65535) (hb : 0 ≤ b) (hb2 : b ≤ 65535) :
    Calls Try.prog 72 #[.int .u16 c, .int .u16 a, .int .u16 b] w fun e w' => e = .returned (.int .u16 (65535 - Sp.sumB (Sp.ofB (65535 - c) 2 ++ Sp.ofB (65535 - a) 2 ++ Sp.ofB b 2))) ∧ Below w.heap.size w w' := by
  have s1 := Sp.ofB_size (65535 - c) 2
  have s2 := Sp.ofB_size (65535 - a) 2
  have s3 := Sp.ofB_size b 2
  have HB := Below.refl w.heap.size w
  go_enter Try.func72, Try.ntmps72
  go_wp2_with fail
  refine (Calls.since HB (rof2_any _ w (by omega) (by omega))).mono ?_; clear HB
  rintro e w1 ⟨rfl, HB⟩
  go_wp2_with fail
  refine (Calls.since HB (rof2_any _ _ (by omega) (by omega))).mono ?_; clear HB
  rintro e w2 ⟨rfl, HB⟩
  go_wp2_with fail
  refine (Calls.since HB (rof2_any _ _ hb (by omega))).mono ?_; clear HB
  rintro e w3 ⟨rfl, HB⟩
  go_wp2_with fail
  refine (rsumOf_any _ _ (by simp only [ByteArray.size_append, s1, s2, s3]; decide)).mono ?_
  rintro e w4 ⟨rfl, rfl⟩
  go_wp2_with fail
  go_ret
  exact ⟨rfl, HB⟩

/-! One text, or two, laid by the caller. -/
theorem add1 (s : ByteArray) (b : Nat) (W w0 : World) (h : Below w0.heap.size w0 W) (hb : b = W.heap.size) (hz : s.size ≤ 140737488355328) :
    Calls Try.prog 78 #[.slice (some ⟨b, 0, none⟩) 1 1] (W.alloc (.cells #[.string s] 9)) fun e w' => e = .returned (.int .u16 (Sp.sumB s)) ∧ Below w0.heap.size w0 w' := by
  have := Calls.since (below_new h _) (add_any (some ⟨b, 0, none⟩) 1 [s] _ ((strs1 W 9 s).at hb) (by simp) (by rw [joined_one]; exact hz))
  rwa [joined_one] at this
theorem sumOf1 (s : ByteArray) (b : Nat) (W w0 : World) (h : Below w0.heap.size w0 W) (hb : b = W.heap.size) (hz : s.size ≤ 140737488355328) :
    Calls Try.prog 45 #[.slice (some ⟨b, 0, none⟩) 1 1] (W.alloc (.cells #[.string s] 9)) fun e w' => e = .returned (.int .u16 (65535 - Sp.sumB s)) ∧ Below w0.heap.size w0 w' := by
  have := Calls.since (below_new h _) (sumOf_any (some ⟨b, 0, none⟩) 1 [s] _ ((strs1 W 9 s).at hb) (by simp) (by rw [joined_one]; exact hz))
  rwa [joined_one] at this
theorem right1 (s : ByteArray) (b : Nat) (W w0 : World) (h : Below w0.heap.size w0 W) (hb : b = W.heap.size) (hz : s.size ≤ 140737488355328) :
    Calls Try.prog 48 #[.slice (some ⟨b, 0, none⟩) 1 1] (W.alloc (.cells #[.string s] 9)) fun e w' => e = .returned (.bool (Sp.sumB s == 65535)) ∧ Below w0.heap.size w0 w' := by
  have := Calls.since (below_new h _) (right_any (some ⟨b, 0, none⟩) 1 [s] _ ((strs1 W 9 s).at hb) (by simp) (by rw [joined_one]; exact hz))
  rwa [joined_one] at this
theorem add2 (s t : ByteArray) (b : Nat) (W w0 : World) (h : Below w0.heap.size w0 W) (hb : b = W.heap.size) (hz : (s ++ t).size ≤ 140737488355328) :
    Calls Try.prog 78 #[.slice (some ⟨b, 0, none⟩) 2 2] (W.alloc (.cells #[.string s, .string t] 9)) fun e w' => e = .returned (.int .u16 (Sp.sumB (s ++ t))) ∧ Below w0.heap.size w0 w' := by
  have := Calls.since (below_new h _) (add_any (some ⟨b, 0, none⟩) 2 [s, t] _ ((strs2 W 9 s t).at hb) (by simp) (by rw [joined_two]; exact hz))
  rwa [joined_two] at this
theorem sumOf2 (s t : ByteArray) (b : Nat) (W w0 : World) (h : Below w0.heap.size w0 W) (hb : b = W.heap.size) (hz : (s ++ t).size ≤ 140737488355328) :
    Calls Try.prog 45 #[.slice (some ⟨b, 0, none⟩) 2 2] (W.alloc (.cells #[.string s, .string t] 9)) fun e w' => e = .returned (.int .u16 (65535 - Sp.sumB (s ++ t))) ∧ Below w0.heap.size w0 w' := by
  have := Calls.since (below_new h _) (sumOf_any (some ⟨b, 0, none⟩) 2 [s, t] _ ((strs2 W 9 s t).at hb) (by simp) (by rw [joined_two]; exact hz))
  rwa [joined_two] at this
theorem sumOf3 (s t u : ByteArray) (b : Nat) (W w0 : World) (h : Below w0.heap.size w0 W) (hb : b = W.heap.size) (hz : (s ++ (t ++ u)).size ≤ 140737488355328) :
    Calls Try.prog 45 #[.slice (some ⟨b, 0, none⟩) 3 3] (W.alloc (.cells #[.string s, .string t, .string u] 9)) fun e w' => e = .returned (.int .u16 (65535 - Sp.sumB (s ++ (t ++ u)))) ∧ Below w0.heap.size w0 w' := by
  have := Calls.since (below_new h _) (sumOf_any (some ⟨b, 0, none⟩) 3 [s, t, u] _ ((strs3 W 9 s t u).at hb) (by simp) (by rw [joined_three]; exact hz))
  rwa [joined_three] at this
theorem sumOf4 (s t u v : ByteArray) (b : Nat) (W w0 : World) (h : Below w0.heap.size w0 W) (hb : b = W.heap.size) (hz : (s ++ (t ++ (u ++ v))).size ≤ 140737488355328) :
    Calls Try.prog 45 #[.slice (some ⟨b, 0, none⟩) 4 4] (W.alloc (.cells #[.string s, .string t, .string u, .string v] 9)) fun e w' => e = .returned (.int .u16 (65535 - Sp.sumB (s ++ (t ++ (u ++ v))))) ∧ Below w0.heap.size w0 w' := by
  have := Calls.since (below_new h _) (sumOf_any (some ⟨b, 0, none⟩) 4 [s, t, u, v] _ ((strs4 W 9 s t u v).at hb) (by simp) (by rw [joined_four]; exact hz))
  rwa [joined_four] at this
theorem right2 (s t : ByteArray) (b : Nat) (W w0 : World) (h : Below w0.heap.size w0 W) (hb : b = W.heap.size) (hz : (s ++ t).size ≤ 140737488355328) :
    Calls Try.prog 48 #[.slice (some ⟨b, 0, none⟩) 2 2] (W.alloc (.cells #[.string s, .string t] 9)) fun e w' => e = .returned (.bool (Sp.sumB (s ++ t) == 65535)) ∧ Below w0.heap.size w0 w' := by
  have := Calls.since (below_new h _) (right_any (some ⟨b, 0, none⟩) 2 [s, t] _ ((strs2 W 9 s t).at hb) (by simp) (by rw [joined_two]; exact hz))
  rwa [joined_two] at this
end Go.Proofs.Ytnmeeafnobfobaa
