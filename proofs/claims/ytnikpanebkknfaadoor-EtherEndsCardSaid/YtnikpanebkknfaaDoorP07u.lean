/- Law 7, in plain Lean: the two readings of an address are one. -/
import Derived.Test.YtnikpanebkknfaaDoorV07g
namespace Go.Proofs.YtnikpanebkknfaaDoor.VM
namespace G4
open Go.RowKit
theorem stR_bd {m : Nat} (c : UInt8) (h : m < 281474976710656) : stR m c < 281474976710656 := by
  unfold stR; split
  · exact Nat.mod_lt _ (by decide)
  · exact h
theorem foldR_bd : ∀ (l : List UInt8) (m : Nat), m < 281474976710656 → l.foldl stR m < 281474976710656
  | [], _, h => h
  | c :: l, _, h => foldR_bd l _ (stR_bd c h)
theorem read_of {m : Nat} (h : m < 281474976710656) {s : ByteArray} (e : macB m = s) : qA s = m ∧ qD s = m := by
  subst e
  exact ⟨congrArg Prod.fst (macB_read (by omega)), macB_readR h⟩
theorem parse_same (s : ByteArray) : pvA s = pvD s ∧ peA s = peD s := by
  have hb := pu16_bd (replB s ⟨#[58]⟩ ⟨#[]⟩)
  have hq : 0 ≤ qA s ∧ qA s ≤ 281474976710655 := hb
  obtain ⟨m, hm⟩ := Int.eq_ofNat_of_zero_le hq.1
  have hd : qD s < 281474976710656 := foldR_bd _ _ (by decide)
  unfold pvA pvD peA peD
  by_cases h : macB (qA s) = s
  · obtain ⟨e1, e2⟩ := read_of (m := m) (s := s) (by omega) (hm ▸ h)
    rw [e2, ← e1, if_pos h, if_pos h]; exact ⟨rfl, rfl⟩
  · by_cases h2 : macB (qD s) = s
    · obtain ⟨e1, -⟩ := read_of hd h2
      exact absurd (by rw [e1]; exact h2) h
    · rw [if_neg h, if_neg h2, if_neg h, if_neg h2]; exact ⟨rfl, rfl⟩
end G4
end Go.Proofs.YtnikpanebkknfaaDoor.VM
