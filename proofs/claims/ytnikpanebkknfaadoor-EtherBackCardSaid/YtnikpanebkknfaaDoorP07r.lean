/- Law 7, in plain Lean: a text without its colons. -/
import Derived.Test.YtnikpanebkknfaaDoorP07
import Derived.Test.YtnikpanebkknfaaDoorB7
namespace Go.Proofs.YtnikpanebkknfaaDoor.VM
namespace G4
open Go.RowKit
set_option linter.unusedVariables false
set_option linter.unusedSimpArgs false
theorem idx58_no : ∀ {a : List UInt8}, (58 : UInt8) ∉ a → Lib.index a [58] = -1
  | [], _ => by simp [Lib.index]
  | b :: a, h => by
    simp only [List.mem_cons, not_or] at h
    rw [Lib.index, idx58_no h.2]
    simp [List.isPrefixOf, h.1]
theorem idx58_at : ∀ {a : List UInt8} {r : List UInt8}, (58 : UInt8) ∉ a → Lib.index (a ++ 58 :: r) [58] = a.length
  | [], r, _ => by simp [Lib.index, List.isPrefixOf]
  | b :: a, r, h => by
    simp only [List.mem_cons, not_or] at h
    have ih := idx58_at (r := r) h.2
    rw [List.cons_append, Lib.index, ih]
    have : ¬ ((a.length : Int) == -1) = true := by simp
    simp [List.isPrefixOf, h.1, this]
theorem filt58_no {a : List UInt8} (h : (58 : UInt8) ∉ a) : a.filter (· != 58) = a := by
  rw [List.filter_eq_self]
  intro x hx
  simp only [bne_iff_ne, ne_eq]
  rintro rfl; exact h hx
theorem repl58 : ∀ (n : Nat) (l : List UInt8), l.length ≤ n → Lib.replaceK [58] [] (Lib.count l [58]) l = l.filter (· != 58) := by
  intro n
  induction n with
  | zero =>
    intro l h
    obtain rfl : l = [] := List.length_eq_zero_iff.1 (by omega)
    rw [Lib.count_miss (idx58_no (by simp))]; rfl
  | succ n ih =>
    intro l h
    by_cases hm : (58 : UInt8) ∈ l
    · obtain ⟨a, r, rfl, ha⟩ := List.eq_append_cons_of_mem hm
      have hx := idx58_at (r := r) ha
      have hd : (a ++ 58 :: r).drop (a.length + 1) = r := by
        rw [List.drop_append]; simp
      rw [Lib.count_hit (by simp) hx]
      show Lib.replaceK [58] [] (1 + Lib.count ((a ++ 58 :: r).drop (a.length + 1)) [58]) _ = _
      rw [hd, Nat.add_comm, Lib.replaceK_hit _ _ _ _ _ hx]
      simp only [List.length_singleton, hd, List.append_nil]
      rw [List.take_left, ih r (by simp at h; omega)]
      simp [filt58_no ha]
    · rw [Lib.count_miss (idx58_no hm), filt58_no hm]; rfl
theorem replB58 (s : ByteArray) : (replB s colB ⟨#[]⟩).data.toList = s.data.toList.filter (· != 58) := by
  show Lib.replaceAll s.data.toList [58] [] = _
  rw [show Lib.replaceAll s.data.toList [58] [] = Lib.replaceK [58] [] (Lib.replaceNum s.data.toList [58] (-1)) s.data.toList from rfl]
  rw [show Lib.replaceNum s.data.toList [58] (-1) = Lib.count s.data.toList [58] from if_pos (.inl (by decide))]
  exact repl58 _ _ (Nat.le_refl _)
theorem pu16_list (s : ByteArray) (h : s.data.toList ≠ []) : pu16 s = pu16L 0 s.data.toList := by
  refine if_neg fun e => h ?_
  exact List.length_eq_zero_iff.1 (by simpa using e)
/-- An address's text, without its colons, is read as that address. -/
theorem macB_read {m : Nat} (h : m ≤ 281474976710655) : pu16 (replB (macB m) colB ⟨#[]⟩) = ((m : Int), 0) := by
  have e : (replB (macB m) colB ⟨#[]⟩).data.toList = macL m := by rw [replB58, macB_filter]
  rw [pu16_list _ (by
    rw [e]; obtain ⟨x, y, hx, _⟩ := hxL_two (c := m / 1099511627776 % 256) (by omega)
    unfold macL; rw [hx]; simp), e, macL_read h]
end G4
end Go.Proofs.YtnikpanebkknfaaDoor.VM
