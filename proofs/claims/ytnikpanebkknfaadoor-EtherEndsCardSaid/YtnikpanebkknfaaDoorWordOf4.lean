/- Contracts of word.Of and of its answer by definition. -/
import Derived.Test.YtnikpanebkknfaaDoorRows
import Derived.Test.YtnikpanebkknfaaDoorSpec
import Derived.WalkKit
import Derived.WalkSpells
import Derived.WalkLawsBesides
import Derived.Lib.ConvBytes
namespace Go.Proofs.YtnikpanebkknfaaDoor
open Go.RowKit
set_option linter.unusedVariables false

theorem sl8 (b m : Nat) (hm : 1 ≤ m) (hm2 : m ≤ 8) (w : World) : (Instr.sliceAt 100 (.pointer (some ⟨b, 0, none⟩)) (some (.int .i64 (8 - (m : Int)))) none none).run Tryd.prog w = .ok (.slice (some ⟨b, 8 - m, none⟩) m m) w := by
  have h8 : (Tryd.prog).arrayLen 100 = 8 := by kernel_rfl
  have hu : (Tryd.prog).underlying 100 = some (.array ((Tryd.prog).arrayLen 100) ((Tryd.prog).elem 100)) := by kernel_rfl
  have hs : (sizeOf ((Tryd.prog).elem 100)).run Tryd.prog w = .ok 1 w := by kernel_rfl
  rw [run_sliceAt_array_l w _ _ hu _ _ (by omega) (by rw [h8]; omega), hs, h8]
  have e1 : (8 - (m : Int)).toNat = 8 - m := by omega
  have e2 : 8 - (8 - m) = m := by omega
  simp only [Result.andThen, slicedAt, e1, e2, Sp.addr_add, Nat.mul_one, Nat.zero_add]
  rw [if_neg (by omega)]

set_option maxHeartbeats 400000 in
set_option maxRecDepth 100000 in
theorem of_any (x : Int) (n : Nat) (w : World) (hx : 0 ≤ x) (hx2 : x < 18446744073709551616) (hn : 1 ≤ n) (hn2 : n ≤ 8) :
    Calls Tryd.prog 43 #[.int .u64 x, .int .i64 n] w fun e w' => e = .returned (.string (Sp.ofB x n)) ∧ Below w.heap.size w w' := by
  go_enter Tryd.func43, Tryd.ntmps43
  go_wp2
  go_loopw [7] (fun i wr => ∃ k : Nat, k ≤ 8 ∧ i = .int .i64 k ∧ wr = w.alloc (.cells (Sp.ofCells x k) 100)) (fun i _ => 8 - (intOf i).toNat)
  case atStart => exact ⟨0, by omega, rfl, rfl⟩
  case round =>
    obtain ⟨k, hk, rfl, rfl⟩ := hrel
    by_cases hlt : k < 8
    · have hz := Sp.ofCells_size x k
      obtain ⟨v, hg⟩ : ∃ v, (Sp.ofCells x k)[7 - k]? = some v := ⟨_, Array.getElem?_eq_getElem (by omega)⟩
      clear hz
      go_wp2
      exact ⟨⟨k + 1, by omega, by go_num, rfl⟩, by simp [intOf]; omega⟩
    · have hk8 : k = 8 := by omega
      subst hk8
      have hsl := sl8 w.heap.size n hn hn2
      have hcv : (convert 25 9 (.slice (some ⟨w.heap.size, 8 - n, none⟩) n n)).run Tryd.prog (w.alloc (.cells (Sp.ofCells x 8) 100)) = .ok (.string (Sp.ofB x n)) (w.alloc (.cells (Sp.ofCells x 8) 100)) := by
        have h := run_convert_bytes_back (P := Tryd.prog) (w.alloc (.cells (Sp.ofCells x 8) 100)) 25 9 5 ⟨w.heap.size, 8 - n, none⟩ n (Sp.ofL x n) Tryd.underlying25 Tryd.underlying5 Tryd.underlying9 ?_
        · rw [Sp.ofL_length] at h; exact h
        · intro j hj
          have hj2 : j < n := by rwa [Sp.ofL_length] at hj
          rw [Sp.ofL_get]
          rw [Sp.addr_add, World.cell?_alloc_new, Sp.ofCells_get x 8 (8 - n + j) (by omega) (by omega) (by omega)]
          rw [show 7 - (8 - n + j) = n - 1 - j by omega]
      go_wp2
      go_ret
      exact ⟨rfl, (Below.refl _ _).alloc (Nat.le_refl _) _⟩

theorem of1_any (x : Int) (w : World) (hx : 0 ≤ x) (hx2 : x < 18446744073709551616) :
    Calls Tryd.prog 43 #[.int .u64 x, .int .i64 1] w fun e w' => e = .returned (.string (Sp.ofB x 1)) ∧ Below w.heap.size w w' := of_any x 1 w hx hx2 (by decide) (by decide)

theorem of2_any (x : Int) (w : World) (hx : 0 ≤ x) (hx2 : x < 18446744073709551616) :
    Calls Tryd.prog 43 #[.int .u64 x, .int .i64 2] w fun e w' => e = .returned (.string (Sp.ofB x 2)) ∧ Below w.heap.size w w' := of_any x 2 w hx hx2 (by decide) (by decide)

theorem of4_any (x : Int) (w : World) (hx : 0 ≤ x) (hx2 : x < 18446744073709551616) :
    Calls Tryd.prog 43 #[.int .u64 x, .int .i64 4] w fun e w' => e = .returned (.string (Sp.ofB x 4)) ∧ Below w.heap.size w w' := of_any x 4 w hx hx2 (by decide) (by decide)

theorem of6_any (x : Int) (w : World) (hx : 0 ≤ x) (hx2 : x < 18446744073709551616) :
    Calls Tryd.prog 43 #[.int .u64 x, .int .i64 6] w fun e w' => e = .returned (.string (Sp.ofB x 6)) ∧ Below w.heap.size w w' := of_any x 6 w hx hx2 (by decide) (by decide)
theorem conv_byte (b : Int) (h0 : 0 ≤ b) (h1 : b < 256) (c : Nat) (W : World) :
    (convert 25 9 (.slice (some ⟨W.heap.size, 0, none⟩) 1 c)).run Tryd.prog (W.alloc (.cells #[.int .u8 b] 5)) = .ok (.string ⟨#[UInt8.ofNat b.toNat]⟩) (W.alloc (.cells #[.int .u8 b] 5)) := by
  have h := run_convert_bytes_back (P := Tryd.prog) (W.alloc (.cells #[.int .u8 b] 5)) 25 9 5 ⟨W.heap.size, 0, none⟩ c [UInt8.ofNat b.toNat] Tryd.underlying25 Tryd.underlying5 Tryd.underlying9 ?_
  · exact h
  · intro j hj
    have hj0 : j = 0 := by simp at hj; exact hj
    subst hj0
    rw [Sp.addr_add, World.cell?_alloc_new]
    simp only [List.getElem_cons_zero]
    rw [UInt8.toNat_ofNat_of_lt' (by show b.toNat < 256; omega)]
    have : ((b.toNat : Nat) : Int) = b := by omega
    rw [this]; rfl

set_option maxHeartbeats 400000 in
set_option maxRecDepth 100000 in
theorem rof_any (x : Int) (n : Nat) (w : World) (hx : 0 ≤ x) (hx2 : x < 18446744073709551616) (hn : 1 ≤ n) (hn2 : n ≤ 8) :
    Calls Tryd.prog 53 #[.int .u64 x, .int .i64 n] w fun e w' => e = .returned (.string (Sp.ofB x n)) ∧ Below w.heap.size w w' := by
  go_enter Tryd.func53, Tryd.ntmps53
  go_wp2
  go_loopw [0, 5, 6] (fun y s i wr => ∃ k : Nat, k ≤ n ∧ i = .int .i64 k ∧ y = .int .u64 (x / 2 ^ (8 * k)) ∧ s = .string (Sp.ofB x k) ∧ Below w.heap.size w wr) (fun _ _ i _ => n - (intOf i).toNat)
  case atStart => exact ⟨0, by omega, rfl, by simp, rfl, Below.refl _ _⟩
  case round =>
    obtain ⟨k, hk, rfl, rfl, rfl, hB⟩ := hrel
    by_cases hlt : k < n
    · have hk8 : (k : Int) < 8 := by omega
      have h0 : 0 ≤ x / 2 ^ (8 * k) := Int.ediv_nonneg hx (Int.le_of_lt (Int.pow_pos (by decide)))
      have h1 : x / 2 ^ (8 * k) < 18446744073709551616 := Int.lt_of_le_of_lt (Int.ediv_le_self _ hx) hx2
      have hd := hid (Sp.div_step x k)
      have hcv := conv_byte (x / 2 ^ (8 * k) % 256) (Int.emod_nonneg _ (by decide)) (Int.emod_lt_of_pos _ (by decide)) 1
      have hs := hid (Sp.ofB_succ x k)
      generalize x / 2 ^ (8 * k) = y at *
      have hsz : (Sp.ofB x k).size ≤ 8 := by rw [Sp.ofB_size]; omega
      go_wp2
      exact ⟨⟨k + 1, by omega, by go_num, by rw [hd.out], by rw [hs.out], hB.alloc hB.size _⟩, by simp [intOf]; omega⟩
    · have hke : k = n := by omega
      subst hke
      go_wp2
      go_ret
      exact ⟨rfl, hB⟩

end Go.Proofs.YtnikpanebkknfaaDoor
