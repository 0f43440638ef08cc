/- stevedoreref15.Decode as one contract. -/
import Derived.Test.YtlpeefemffmpmaaUdpG
namespace Go.Proofs.Ytlpeefemffmpmaa
open Go.RowKit
set_option linter.unusedVariables false
theorem Sp.u2_zero (s : ByteArray) (k : Nat) (h : k + 2 ≤ s.size) : ((s.extract k (k + 2)).toList == [0, 0]) = decide (Sp.u2 s k = 0) := by
  have e : (s.extract k (k + 2)).toList = [s[k]'(by omega), s[k + 1]'(by omega)] := by
    rw [ByteArray.toList_eq]
    apply List.ext_getElem
    · simp; omega
    · intro i h1 h2
      simp at h2
      have : i = 0 ∨ i = 1 := by omega
      rcases this with rfl | rfl <;> simp [ByteArray.getElem_eq_getElem_data]
  rw [e, Sp.u2_bytes s k h]
  generalize s[k]'(by omega) = a
  generalize s[k + 1]'(by omega) = b
  have e1 : ([a, b] == [0, 0]) = decide (a = 0 ∧ b = 0) := by
    by_cases ha : a = 0 <;> by_cases hb : b = 0 <;> simp [ha, hb]
  rw [e1]
  congr 1
  have n1 : a = 0 ↔ a.toNat = 0 := by rw [← UInt8.toNat_inj]; rfl
  have n2 : b = 0 ↔ b.toNat = 0 := by rw [← UInt8.toNat_inj]; rfl
  rw [n1, n2]
  apply propext
  omega
theorem rudpDecode_any (x y : Int) (s : ByteArray) (w : World) (hs : s.size ≤ 140737488355000) (hx : 0 ≤ x) (hx2 : x < 4294967296) (hy : 0 ≤ y) (hy2 : y < 4294967296) :
    Calls Try.prog 32 #[.int .u32 x, .int .u32 y, .string s] w fun e w' => e = .returned (.tuple #[Sp.udpV x y s, .int .i64 (Sp.udpE x y s)]) ∧ Below w.heap.size w w' := by
  obtain ⟨a1, a2⟩ := Sp.u2_bd s 4
  obtain ⟨p1, p2⟩ := Sp.u2_bd s 0
  obtain ⟨q1, q2⟩ := Sp.u2_bd s 2
  by_cases h1 : (s.size : Int) < 8
  · have e : Sp.udpE x y s = 10 := by simp [Sp.udpE, h1]
    rw [Sp.udpV_no _ _ _ (by omega), e]
    exact rudpDecode_1 x y _ _ _ s w hs hx hx2 hy hy2 rfl rfl rfl p1 p2 q1 q2 a1 a2 _ rfl h1
  have hz := Sp.u2_zero s 6 (by omega)
  by_cases h2 : Sp.u2 s 4 < 8
  · have e : Sp.udpE x y s = 8 := by simp [Sp.udpE, h1, h2]
    rw [Sp.udpV_no _ _ _ (by omega), e]
    exact rudpDecode_2 x y _ _ _ s w hs hx hx2 hy hy2 rfl rfl rfl p1 p2 q1 q2 a1 a2 _ rfl (by omega) h2
  by_cases h3 : (s.size : Int) < Sp.u2 s 4
  · have e : Sp.udpE x y s = 10 := by simp [Sp.udpE, h1, h2, h3]
    rw [Sp.udpV_no _ _ _ (by omega), e]
    exact rudpDecode_3 x y _ _ _ s w hs hx hx2 hy hy2 rfl rfl rfl p1 p2 q1 q2 a1 a2 _ rfl (by omega) (by omega) h3
  by_cases h4 : 65515 < Sp.u2 s 4
  · have e : Sp.udpE x y s = 4 := by simp [Sp.udpE, h1, h2, h3, h4]
    rw [Sp.udpV_no _ _ _ (by omega), e]
    exact rudpDecode_4 x y _ _ _ s w hs hx hx2 hy hy2 rfl rfl rfl p1 p2 q1 q2 a1 a2 _ rfl (by omega) (by omega) (by omega) h4
  by_cases h5 : Sp.u2 s 6 = 0
  · have e : Sp.udpE x y s = 0 := by simp [Sp.udpE, h1, h2, h3, h4, h5]
    rw [Sp.udpV_yes _ _ _ e, e]
    exact rudpDecode_7 x y _ _ _ s w hs hx hx2 hy hy2 rfl rfl rfl p1 p2 q1 q2 a1 a2 _ hz (by omega) (by omega) (by omega) (by omega) (by simpa using h5)
  by_cases h6 : Sp.udpR x y s = 65535
  · have e : Sp.udpE x y s = 0 := by simp [Sp.udpE, h1, h2, h3, h4, h5, h6]
    rw [Sp.udpV_yes _ _ _ e, e]
    exact rudpDecode_6 x y _ _ _ s w hs hx hx2 hy hy2 rfl rfl rfl p1 p2 q1 q2 a1 a2 _ hz (by omega) (by omega) (by omega) (by omega) (by simpa using h5) (by simpa [Sp.udpR] using h6)
  · have e : Sp.udpE x y s = 101 := by simp [Sp.udpE, h1, h2, h3, h4, h5, h6]
    rw [Sp.udpV_no _ _ _ (by omega), e]
    exact rudpDecode_5 x y _ _ _ s w hs hx hx2 hy hy2 rfl rfl rfl p1 p2 q1 q2 a1 a2 _ hz (by omega) (by omega) (by omega) (by omega) (by simpa using h5) (by simpa [Sp.udpR] using h6)
end Go.Proofs.Ytlpeefemffmpmaa
