/- More of the sum, plain: a checksum that is put in its place; a text with another byte. -/
import Derived.Test.YtnmeeafnobfobaaSumP
namespace Go.Proofs.Ytnmeeafnobfobaa.Sp
set_option linter.unusedVariables false
theorem sum_put (H F B : ByteArray) (c : Int) (hH : H.size % 2 = 0) (hF : F.size % 2 = 0) (hne : sumB H ≠ 0) (hc : 65535 - sumB (H ++ (F ++ (⟨#[0, 0]⟩ ++ B))) = c) : sumB (H ++ (F ++ (ofB c 2 ++ B))) = 65535 := by
  have z : sumB ⟨#[0, 0]⟩ = 0 := by decide +kernel
  have bd := sumB_bd (H ++ (F ++ (⟨#[0, 0]⟩ ++ B)))
  have e1 := sumB_mod_append H (F ++ (⟨#[0, 0]⟩ ++ B)) hH
  have e2 := sumB_mod_append F (⟨#[0, 0]⟩ ++ B) hF
  have e3 := sumB_mod_append ⟨#[0, 0]⟩ B (by decide)
  have f1 := sumB_mod_append H (F ++ (ofB c 2 ++ B)) hH
  have f2 := sumB_mod_append F (ofB c 2 ++ B) hF
  have f3 := sumB_mod_append (ofB c 2) B (by simp [ofB_size])
  rw [sumB_ofB2 c (by omega) (by omega)] at f3
  have ne : sumB (H ++ (F ++ (ofB c 2 ++ B))) ≠ 0 := fun h => hne ((sumB_zero_append _ _ hH).1 h).1
  have bd2 := sumB_bd (H ++ (F ++ (ofB c 2 ++ B)))
  omega
theorem refN_mod' (s : ByteArray) (k : Nat) : refN s (k + 1) % 65535 = (refN s k + (if k % 2 = 0 then 256 * bt s k else bt s k)) % 65535 := by
  rw [refN_succ]; split <;> split <;> omega
theorem refN_set' (s t : ByteArray) (k : Nat) (b : Int) (h : ∀ i, bt t i = if i = k then b else bt s i) : ∀ j, refN t j % 65535 = (refN s j + (if k < j then (if k % 2 = 0 then 256 * (b - bt s k) else b - bt s k) else 0)) % 65535
  | 0 => by simp [refN]
  | j + 1 => by
    have ih := refN_set' s t k b h j
    have a1 := refN_mod' t j
    have a2 := refN_mod' s j
    rw [h j] at a1
    by_cases e : j = k
    · subst e
      rw [if_pos rfl] at a1
      rw [if_neg (by omega)] at ih
      rw [if_pos (by omega)]
      split at a1 <;> split at a2 <;> simp only [*, if_true, if_false] <;> omega
    · rw [if_neg e] at a1
      by_cases e2 : k < j
      · rw [if_pos e2] at ih; rw [if_pos (by omega)]; omega
      · rw [if_neg e2] at ih; rw [if_neg (by omega)]; omega
theorem sumB_set' (s t : ByteArray) (k : Nat) (b : Int) (h : ∀ i, bt t i = if i = k then b else bt s i) (hk : k < s.size) (hz : t.size = s.size) : sumB t % 65535 = (sumB s + (if k % 2 = 0 then 256 * (b - bt s k) else b - bt s k)) % 65535 := by
  rw [← refN_sum, ← refN_sum, hz, refN_set' s t k b h s.size, if_pos hk]

/-- A byte that is another one is told. -/
theorem sum_told (s t : ByteArray) (k : Nat) (b : Int) (h : ∀ i, bt t i = if i = k then b else bt s i) (hk : k < s.size) (hz : t.size = s.size) (hb : 0 ≤ b ∧ b < 256) (hs : sumB s = 65535) (ht : sumB t = 65535) : b = bt s k := by
  have e := sumB_set' s t k b h hk hz
  have := bt_bd s k
  rw [hs, ht] at e
  split at e <;> omega
end Go.Proofs.Ytnmeeafnobfobaa.Sp
