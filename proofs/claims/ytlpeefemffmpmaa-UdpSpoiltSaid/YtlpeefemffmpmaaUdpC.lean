/- Contracts of udp.Decode's five closures. -/
import Derived.Test.YtlpeefemffmpmaaTurn
import Derived.Test.YtlpeefemffmpmaaUdpS
import Derived.Deep.QuietTactic
import Derived.BigQuiet
import Derived.Deep.RegionHeld3
namespace Go.Proofs.Ytlpeefemffmpmaa
open Go.RowKit
set_option linter.unusedVariables false

theorem udpD1 (b : Nat) (s : ByteArray) (w : World) (h : w.cell? ⟨b, 0, none⟩ = some (.string s)) :
    Calls Try.prog 51 #[.pointer (some ⟨b, 0, none⟩)] w fun e w' => e = .returned (.bool (decide ((s.size : Int) < 8))) ∧ w = w' := by
  go_enter Try.func51, Try.ntmps51
  go_wp2
  go_ret
  exact ⟨rfl, rfl⟩
theorem udpD2 (b : Nat) (n : Int) (w : World) (h : w.cell? ⟨b, 0, none⟩ = some (.int .i64 n)) :
    Calls Try.prog 52 #[.pointer (some ⟨b, 0, none⟩)] w fun e w' => e = .returned (.bool (decide (n < 8))) ∧ w = w' := by
  go_enter Try.func52, Try.ntmps52
  go_wp2
  go_ret
  exact ⟨rfl, rfl⟩
theorem udpD3 (b c : Nat) (s : ByteArray) (n : Int) (w : World) (h : w.cell? ⟨b, 0, none⟩ = some (.string s)) (h2 : w.cell? ⟨c, 0, none⟩ = some (.int .i64 n)) :
    Calls Try.prog 53 #[.pointer (some ⟨b, 0, none⟩), .pointer (some ⟨c, 0, none⟩)] w fun e w' => e = .returned (.bool (decide ((s.size : Int) < n))) ∧ w = w' := by
  go_enter Try.func53, Try.ntmps53
  go_wp2
  go_ret
  exact ⟨rfl, rfl⟩
theorem udpD4 (b : Nat) (n : Int) (w : World) (h : w.cell? ⟨b, 0, none⟩ = some (.int .i64 n)) :
    Calls Try.prog 54 #[.pointer (some ⟨b, 0, none⟩)] w fun e w' => e = .returned (.bool (decide (65515 < n))) ∧ w = w' := by
  go_enter Try.func54, Try.ntmps54
  go_wp2
  go_ret
  exact ⟨rfl, rfl⟩
set_option maxRecDepth 100000 in
theorem udpD5_zero (bc b1 b2 bn bs : Nat) (w : World) (h : w.cell? ⟨bc, 0, none⟩ = some (.int .u16 0)) :
    Calls Try.prog 55 #[.pointer (some ⟨bc, 0, none⟩), .pointer (some ⟨b1, 0, none⟩), .pointer (some ⟨b2, 0, none⟩), .pointer (some ⟨bn, 0, none⟩), .pointer (some ⟨bs, 0, none⟩)] w fun e w' => e = .returned (.bool false) ∧ Below w.heap.size w w' := by
  go_enter Try.func55, Try.ntmps55
  go_wp2_with fail
  go_quiet (fail)
  go_wp2_with fail
  go_ret
  exact ⟨rfl, below_drewN (Below.refl _ _) _⟩
set_option maxRecDepth 100000 in
theorem udpD5_sum (bc b1 b2 bn bs : Nat) (c x y n : Int) (s : ByteArray) (W0 : World) (h1 : W0.cell? ⟨bc, 0, none⟩ = some (.int .u16 c)) (h2 : W0.cell? ⟨b1, 0, none⟩ = some (.int .u32 x))
    (h3 : W0.cell? ⟨b2, 0, none⟩ = some (.int .u32 y)) (h4 : W0.cell? ⟨bn, 0, none⟩ = some (.int .i64 n)) (h5 : W0.cell? ⟨bs, 0, none⟩ = some (.string s)) (hc : (c != 0) = true)
    (hx : 0 ≤ x) (hx2 : x < 4294967296) (hy : 0 ≤ y) (hy2 : y < 4294967296) (hn : 0 ≤ n) (hns : n ≤ s.size) (hs : s.size ≤ 140737488355000) (r : Bool) (hr : (Sp.sumB (Sp.headB x y 17 n ++ s.extract 0 n.toNat) == 65535) = r)
    (q1 : bc < W0.heap.size) (q2 : b1 < W0.heap.size) (q3 : b2 < W0.heap.size) (q4 : bn < W0.heap.size) (q5 : bs < W0.heap.size) :
    Calls Try.prog 55 #[.pointer (some ⟨bc, 0, none⟩), .pointer (some ⟨b1, 0, none⟩), .pointer (some ⟨b2, 0, none⟩), .pointer (some ⟨bn, 0, none⟩), .pointer (some ⟨bs, 0, none⟩)] W0 fun e w' => e = .returned (.bool !r) ∧ Below W0.heap.size W0 w' := by
  have HR := hid hr
  have hz : (Sp.headB x y 17 n ++ s.extract 0 n.toNat).size ≤ 140737488355328 := by rw [ByteArray.size_append, Sp.headB_size, ByteArray.size_extract]; omega
  clear hr
  have HB := Below.refl W0.heap.size W0
  go_enter Try.func55, Try.ntmps55
  have hz2 : (Sp.headB x y 17 n).size = 12 := Sp.headB_size _ _ _ _
  have un : IntKind.u64.wrap n = n := Sp.u64_wrap_in _ hn (by omega)
  go_wp2_with fail
  go_region_held3 (fun w' => Below W0.heap.size W0 w' ∧ w'.cell? ⟨bc, 0, none⟩ = some (.int .u16 c) ∧ w'.cell? ⟨b1, 0, none⟩ = some (.int .u32 x) ∧ w'.cell? ⟨b2, 0, none⟩ = some (.int .u32 y) ∧ w'.cell? ⟨bn, 0, none⟩ = some (.int .i64 n) ∧ w'.cell? ⟨bs, 0, none⟩ = some (.string s))
    (exact keep5 q1 q2 q3 q4 q5 h1 h2 h3 h4 h5 (by repeat (first | assumption | exact (‹Below W0.heap.size W0 _ ∧ _›).1 | apply below_new | apply below_drewN | apply Below.drew)))
    (first | (go_at_call 25; refine (Calls.since (w0 := W0) ?_ (head_any _ _ _ _ _ ?_ ?_ ?_ ?_ ?_ ?_)).mono ?_; (first | assumption | (apply Below.drew; assumption) | (apply below_drewN; assumption) | (apply below_new; assumption) | exact (‹Below W0.heap.size W0 _ ∧ _›).1); omega; omega; omega; omega; omega; omega; rintro e w3 ⟨rfl, HB3⟩) | (go_at_call 21; refine (right2 _ _ _ _ W0 ?_ ?_ ?_).mono ?_; (first | assumption | (apply Below.drew; assumption) | (apply below_drewN; assumption) | (apply below_new; assumption) | exact (‹Below W0.heap.size W0 _ ∧ _›).1); simp; exact hz; rw [HR.out]; rintro e w4 ⟨rfl, HB4⟩))
  go_wp2_with fail
  go_ret
  exact ⟨rfl, HB4⟩
end Go.Proofs.Ytlpeefemffmpmaa
