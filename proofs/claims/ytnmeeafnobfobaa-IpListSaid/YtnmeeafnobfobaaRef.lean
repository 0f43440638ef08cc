/- Contracts of the references of layers 1 and 2. -/
import Derived.Test.YtnmeeafnobfobaaSum
namespace Go.Proofs.Ytnmeeafnobfobaa
open Go.RowKit
set_option linter.unusedVariables false

theorem conv_byte (b : Int) (h0 : 0 ≤ b) (h1 : b < 256) (c : Nat) (W : World) :
    (convert 45 9 (.slice (some ⟨W.heap.size, 0, none⟩) 1 c)).run Try.prog (W.alloc (.cells #[.int .u8 b] 5)) = .ok (.string ⟨#[UInt8.ofNat b.toNat]⟩) (W.alloc (.cells #[.int .u8 b] 5)) := by
  have h := run_convert_bytes_back (P := Try.prog) (W.alloc (.cells #[.int .u8 b] 5)) 45 9 5 ⟨W.heap.size, 0, none⟩ c [UInt8.ofNat b.toNat] Try.underlying45 Try.underlying5 Try.underlying9 ?_
  · exact h
  · intro j hj
    have hj0 : j = 0 := by simp at hj; exact hj
    subst hj0
    rw [Sp.addr_add, World.cell?_alloc_new]
    simp only [List.getElem_cons_zero]
    rw [UInt8.toNat_ofNat_of_lt' (by show b.toNat < 256; omega)]
    have : ((b.toNat : Nat) : Int) = b := by omega
    rw [this]; rfl

set_option maxHeartbeats 400000 in
set_option maxRecDepth 100000 in
theorem rof_any (x : Int) (n : Nat) (w : World) (hx : 0 ≤ x) (hx2 : x < 18446744073709551616) (hn : 1 ≤ n) (hn2 : n ≤ 8) :
    Calls Try.prog 46 #[.int .u64 x, .int .i64 n] w fun e w' => e = .returned (.string (Sp.ofB x n)) ∧ Below w.heap.size w w' := by
  go_enter Try.func46, Try.ntmps46
  go_wp2
  go_loopw [0, 5, 6] (fun y s i wr => ∃ k : Nat, k ≤ n ∧ i = .int .i64 k ∧ y = .int .u64 (x / 2 ^ (8 * k)) ∧ s = .string (Sp.ofB x k) ∧ Below w.heap.size w wr) (fun _ _ i _ => n - (intOf i).toNat)
  case atStart => exact ⟨0, by omega, rfl, by simp, rfl, Below.refl _ _⟩
  case round =>
    obtain ⟨k, hk, rfl, rfl, rfl, hB⟩ := hrel
    by_cases hlt : k < n
    · have hk8 : (k : Int) < 8 := by omega
      have h0 : 0 ≤ x / 2 ^ (8 * k) := Int.ediv_nonneg hx (Int.le_of_lt (Int.pow_pos (by decide)))
      have h1 : x / 2 ^ (8 * k) < 18446744073709551616 := Int.lt_of_le_of_lt (Int.ediv_le_self _ hx) hx2
      have hd := hid (Sp.div_step x k)
      have hcv := conv_byte (x / 2 ^ (8 * k) % 256) (Int.emod_nonneg _ (by decide)) (Int.emod_lt_of_pos _ (by decide)) 1
      have hs := hid (Sp.ofB_succ x k)
      generalize x / 2 ^ (8 * k) = y at *
      have hsz : (Sp.ofB x k).size ≤ 8 := by rw [Sp.ofB_size]; omega
      go_wp2
      exact ⟨⟨k + 1, by omega, by go_num, by rw [hd.out], by rw [hs.out], hB.alloc hB.size _⟩, by simp [intOf]; omega⟩
    · have hke : k = n := by omega
      subst hke
      go_wp2
      go_ret
      exact ⟨rfl, hB⟩

theorem rof2_any (x : Int) (w : World) (hx : 0 ≤ x) (hx2 : x < 18446744073709551616) :
    Calls Try.prog 46 #[.int .u64 x, .int .i64 2] w fun e w' => e = .returned (.string (Sp.ofB x 2)) ∧ Below w.heap.size w w' := rof_any x 2 w hx hx2 (by decide) (by decide)
theorem rof4_any (x : Int) (w : World) (hx : 0 ≤ x) (hx2 : x < 18446744073709551616) :
    Calls Try.prog 46 #[.int .u64 x, .int .i64 4] w fun e w' => e = .returned (.string (Sp.ofB x 4)) ∧ Below w.heap.size w w' := rof_any x 4 w hx hx2 (by decide) (by decide)

set_option maxHeartbeats 400000 in
set_option maxRecDepth 100000 in
theorem radd_any (s : ByteArray) (w : World) (hs : s.size ≤ maxLen) :
    Calls Try.prog 79 #[.string s] w fun e w' => e = .returned (.int .u16 (Sp.sumB s)) ∧ w = w' := by
  rw [← Sp.refN_sum]
  unfold maxLen at hs
  go_enter Try.func79, Try.ntmps79
  go_wp2
  go_loop [3, 4] (fun n i => ∃ k : Nat, k ≤ s.size ∧ i = .int .i64 k ∧ n = .int .i64 (Sp.refN s k)) (fun _ i => s.size - (intOf i).toNat)
  case atStart => exact ⟨0, by omega, rfl, rfl⟩
  case round =>
    obtain ⟨k, hk, rfl, rfl⟩ := hrel
    obtain ⟨h0, h1⟩ := Sp.refN_bd s k
    by_cases hlt : k < s.size
    · have hb : (s.data.toList.getD k 0) = s[k]'hlt := by simp [List.getD, hlt]; rfl
      have hb256 : ((s[k]'hlt).toNat : Int) < 256 := by have := (s[k]'hlt).toNat_lt; omega
      have hb' := hid hb
      clear hb
      go_wp2
      all_goals
        rename_i hp hq
        refine ⟨⟨k + 1, by omega, by go_num, congrArg _ ?_⟩, by simp [intOf]; omega⟩
        simp only [beq_iff_eq, beq_eq_false_iff_ne] at hp
        simp only [Sp.refN]
        rw [hb'.out]
        (repeat' split) <;> omega
    · have hke : k = s.size := by omega
      subst hke
      go_wp2
      go_ret
      exact ⟨rfl, rfl⟩
end Go.Proofs.Ytnmeeafnobfobaa
