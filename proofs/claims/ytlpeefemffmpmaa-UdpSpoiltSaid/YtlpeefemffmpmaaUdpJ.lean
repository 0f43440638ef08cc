/- udp.Decode as one contract. -/
import Derived.Test.YtlpeefemffmpmaaUdpD
import Derived.Test.YtlpeefemffmpmaaUdpD5
import Derived.Test.YtlpeefemffmpmaaUdpD6
import Derived.Test.YtlpeefemffmpmaaUdpDz
namespace Go.Proofs.Ytlpeefemffmpmaa
open Go.RowKit
set_option linter.unusedVariables false
namespace Sp
def u2 (s : ByteArray) (k : Int) : Int := num 65536 (textS s k 2).data.toList
theorem u2_bd (s : ByteArray) (k : Int) : 0 ≤ u2 s k ∧ u2 s k ≤ 65535 := by
  have h1 := num_nonneg 65536 (textS s k 2).data.toList
  have h2 := num_lt 65536 (textS s k 2).data.toList (by decide)
  unfold u2; constructor <;> omega
def udpR (x y : Int) (s : ByteArray) : Int := sumB (headB x y 17 (u2 s 4) ++ s.extract 0 (u2 s 4).toNat)
def udpE (x y : Int) (s : ByteArray) : Int :=
  if (s.size : Int) < 8 then 10 else if u2 s 4 < 8 then 8 else if (s.size : Int) < u2 s 4 then 10 else if 65515 < u2 s 4 then 4 else if u2 s 6 = 0 then 0 else if udpR x y s = 65535 then 0 else 101
def udpX (x y : Int) (s : ByteArray) : Int := if udpE x y s = 0 then x else 0
def udpY (x y : Int) (s : ByteArray) : Int := if udpE x y s = 0 then y else 0
def udpP (x y : Int) (s : ByteArray) : Int := if udpE x y s = 0 then u2 s 0 else 0
def udpQ (x y : Int) (s : ByteArray) : Int := if udpE x y s = 0 then u2 s 2 else 0
def udpD (x y : Int) (s : ByteArray) : ByteArray := if udpE x y s = 0 then s.extract 8 (u2 s 4).toNat else ⟨#[]⟩
def udpV (x y : Int) (s : ByteArray) : Value := dg (udpX x y s) (udpP x y s) (udpY x y s) (udpQ x y s) (udpD x y s)
theorem udpV_no (x y : Int) (s : ByteArray) (h : udpE x y s ≠ 0) : udpV x y s = dg 0 0 0 0 ⟨#[]⟩ := by
  simp [udpV, udpX, udpY, udpP, udpQ, udpD, h]
theorem udpV_yes (x y : Int) (s : ByteArray) (h : udpE x y s = 0) : udpV x y s = dg x (u2 s 0) y (u2 s 2) (s.extract 8 (u2 s 4).toNat) := by
  simp [udpV, udpX, udpY, udpP, udpQ, udpD, h]
end Sp
theorem udpDecode_any (x y : Int) (s : ByteArray) (w : World) (hs : s.size ≤ 140737488355000) (hx : 0 ≤ x) (hx2 : x < 4294967296) (hy : 0 ≤ y) (hy2 : y < 4294967296) :
    Calls Try.prog 31 #[.int .u32 x, .int .u32 y, .string s] w fun e w' => e = .returned (.tuple #[Sp.udpV x y s, .int .i64 (Sp.udpE x y s)]) ∧ Below w.heap.size w w' := by
  obtain ⟨a1, a2⟩ := Sp.u2_bd s 4
  obtain ⟨b1, b2⟩ := Sp.u2_bd s 6
  by_cases h1 : (s.size : Int) < 8
  · have e : Sp.udpE x y s = 10 := by simp [Sp.udpE, h1]
    rw [Sp.udpV_no _ _ _ (by omega), e]
    exact udpDecode_1 x y _ _ (Sp.u2 s 4) (Sp.u2 s 6) s w hs hx hx2 hy hy2 rfl rfl rfl rfl a1 a2 b1 b2 h1
  by_cases h2 : Sp.u2 s 4 < 8
  · have e : Sp.udpE x y s = 8 := by simp [Sp.udpE, h1, h2]
    rw [Sp.udpV_no _ _ _ (by omega), e]
    exact udpDecode_2 x y _ _ (Sp.u2 s 4) (Sp.u2 s 6) s w hs hx hx2 hy hy2 rfl rfl rfl rfl a1 a2 b1 b2 (by omega) h2
  by_cases h3 : (s.size : Int) < Sp.u2 s 4
  · have e : Sp.udpE x y s = 10 := by simp [Sp.udpE, h1, h2, h3]
    rw [Sp.udpV_no _ _ _ (by omega), e]
    exact udpDecode_3 x y _ _ (Sp.u2 s 4) (Sp.u2 s 6) s w hs hx hx2 hy hy2 rfl rfl rfl rfl a1 a2 b1 b2 (by omega) (by omega) h3
  by_cases h4 : 65515 < Sp.u2 s 4
  · have e : Sp.udpE x y s = 4 := by simp [Sp.udpE, h1, h2, h3, h4]
    rw [Sp.udpV_no _ _ _ (by omega), e]
    exact udpDecode_4 x y _ _ (Sp.u2 s 4) (Sp.u2 s 6) s w hs hx hx2 hy hy2 rfl rfl rfl rfl a1 a2 b1 b2 (by omega) (by omega) (by omega) h4
  by_cases h5 : Sp.u2 s 6 = 0
  · have e : Sp.udpE x y s = 0 := by simp [Sp.udpE, h1, h2, h3, h4, h5]
    rw [Sp.udpV_yes _ _ _ e, e]
    exact udpDecode_6z x y _ _ (Sp.u2 s 4) (Sp.u2 s 6) s w hs hx hx2 hy hy2 rfl rfl rfl rfl a1 a2 b1 b2 (by omega) (by omega) (by omega) (by omega) h5
  by_cases h6 : Sp.udpR x y s = 65535
  · have e : Sp.udpE x y s = 0 := by simp [Sp.udpE, h1, h2, h3, h4, h5, h6]
    rw [Sp.udpV_yes _ _ _ e, e]
    exact udpDecode_6 x y _ _ (Sp.u2 s 4) (Sp.u2 s 6) s w hs hx hx2 hy hy2 rfl rfl rfl rfl a1 a2 b1 b2 (by omega) (by omega) (by omega) (by omega) (by simpa using h5) (by simpa [Sp.udpR] using h6)
  · have e : Sp.udpE x y s = 101 := by simp [Sp.udpE, h1, h2, h3, h4, h5, h6]
    rw [Sp.udpV_no _ _ _ (by omega), e]
    exact udpDecode_5 x y _ _ (Sp.u2 s 4) (Sp.u2 s 6) s w hs hx hx2 hy hy2 rfl rfl rfl rfl a1 a2 b1 b2 (by omega) (by omega) (by omega) (by omega) (by simpa using h5) (by simpa [Sp.udpR] using h6)
end Go.Proofs.Ytlpeefemffmpmaa
