/- Contract of word.Of. -/
import Derived.Test.YtnmeeafnobfobaaWord
namespace Go.Proofs.Ytnmeeafnobfobaa
open Go.RowKit
set_option linter.unusedVariables false

theorem sl8 (b m : Nat) (hm : 1 ≤ m) (hm2 : m ≤ 8) (w : World) : (Instr.sliceAt 109 (.pointer (some ⟨b, 0, none⟩)) (some (.int .i64 (8 - (m : Int)))) none none).run Try.prog w = .ok (.slice (some ⟨b, 8 - m, none⟩) m m) w := by
  have h8 : (Try.prog).arrayLen 109 = 8 := by kernel_rfl
  have hu : (Try.prog).underlying 109 = some (.array ((Try.prog).arrayLen 109) ((Try.prog).elem 109)) := by kernel_rfl
  have hs : (sizeOf ((Try.prog).elem 109)).run Try.prog w = .ok 1 w := by kernel_rfl
  rw [run_sliceAt_array_l w _ _ hu _ _ (by omega) (by rw [h8]; omega), hs, h8]
  have e1 : (8 - (m : Int)).toNat = 8 - m := by omega
  have e2 : 8 - (8 - m) = m := by omega
  simp only [Result.andThen, slicedAt, e1, e2, Sp.addr_add, Nat.mul_one, Nat.zero_add]
  rw [if_neg (by omega)]

set_option maxHeartbeats 400000 in
set_option maxRecDepth 100000 in
theorem of_any (x : Int) (n : Nat) (w : World) (hx : 0 ≤ x) (hx2 : x < 18446744073709551616) (hn : 1 ≤ n) (hn2 : n ≤ 8) :
    Calls Try.prog 44 #[.int .u64 x, .int .i64 n] w fun e w' => e = .returned (.string (Sp.ofB x n)) ∧ Below w.heap.size w w' := by
  go_enter Try.func44, Try.ntmps44
  go_wp2
  go_loopw [7] (fun i wr => ∃ k : Nat, k ≤ 8 ∧ i = .int .i64 k ∧ wr = w.alloc (.cells (Sp.ofCells x k) 109)) (fun i _ => 8 - (intOf i).toNat)
  case atStart => exact ⟨0, by omega, rfl, rfl⟩
  case round =>
    obtain ⟨k, hk, rfl, rfl⟩ := hrel
    by_cases hlt : k < 8
    · have hz := Sp.ofCells_size x k
      obtain ⟨v, hg⟩ : ∃ v, (Sp.ofCells x k)[7 - k]? = some v := ⟨_, Array.getElem?_eq_getElem (by omega)⟩
      clear hz
      go_wp2
      exact ⟨⟨k + 1, by omega, by go_num, rfl⟩, by simp [intOf]; omega⟩
    · have hk8 : k = 8 := by omega
      subst hk8
      have hsl := sl8 w.heap.size n hn hn2
      have hcv : (convert 45 9 (.slice (some ⟨w.heap.size, 8 - n, none⟩) n n)).run Try.prog (w.alloc (.cells (Sp.ofCells x 8) 109)) = .ok (.string (Sp.ofB x n)) (w.alloc (.cells (Sp.ofCells x 8) 109)) := by
        have h := run_convert_bytes_back (P := Try.prog) (w.alloc (.cells (Sp.ofCells x 8) 109)) 45 9 5 ⟨w.heap.size, 8 - n, none⟩ n (Sp.ofL x n) Try.underlying45 Try.underlying5 Try.underlying9 ?_
        · rw [Sp.ofL_length] at h; exact h
        · intro j hj
          have hj2 : j < n := by rwa [Sp.ofL_length] at hj
          rw [Sp.ofL_get]
          rw [Sp.addr_add, World.cell?_alloc_new, Sp.ofCells_get x 8 (8 - n + j) (by omega) (by omega) (by omega)]
          rw [show 7 - (8 - n + j) = n - 1 - j by omega]
      go_wp2
      go_ret
      exact ⟨rfl, (Below.refl _ _).alloc (Nat.le_refl _) _⟩

theorem of1_any (x : Int) (w : World) (hx : 0 ≤ x) (hx2 : x < 18446744073709551616) :
    Calls Try.prog 44 #[.int .u64 x, .int .i64 1] w fun e w' => e = .returned (.string (Sp.ofB x 1)) ∧ Below w.heap.size w w' := of_any x 1 w hx hx2 (by decide) (by decide)

theorem of2_any (x : Int) (w : World) (hx : 0 ≤ x) (hx2 : x < 18446744073709551616) :
    Calls Try.prog 44 #[.int .u64 x, .int .i64 2] w fun e w' => e = .returned (.string (Sp.ofB x 2)) ∧ Below w.heap.size w w' := of_any x 2 w hx hx2 (by decide) (by decide)

theorem of4_any (x : Int) (w : World) (hx : 0 ≤ x) (hx2 : x < 18446744073709551616) :
    Calls Try.prog 44 #[.int .u64 x, .int .i64 4] w fun e w' => e = .returned (.string (Sp.ofB x 4)) ∧ Below w.heap.size w w' := of_any x 4 w hx hx2 (by decide) (by decide)

theorem of6_any (x : Int) (w : World) (hx : 0 ≤ x) (hx2 : x < 18446744073709551616) :
    Calls Try.prog 44 #[.int .u64 x, .int .i64 6] w fun e w' => e = .returned (.string (Sp.ofB x 6)) ∧ Below w.heap.size w w' := of_any x 6 w hx hx2 (by decide) (by decide)
end Go.Proofs.Ytnmeeafnobfobaa
