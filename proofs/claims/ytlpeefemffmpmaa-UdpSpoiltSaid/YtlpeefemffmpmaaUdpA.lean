/- law 15: cut, behind, alive's facts. -/
import Derived.Test.YtlpeefemffmpmaaUdpK
namespace Go.Proofs.Ytlpeefemffmpmaa
open Go.RowKit
set_option linter.unusedVariables false
theorem cut15_ok (s : ByteArray) (n : Int) (w : World) (h0 : 0 ≤ n) (h : n ≤ s.size) :
    Calls Try.prog 33 #[.string s, .int .i64 n] w fun e w' => e = .returned (.string (s.extract 0 n.toNat)) ∧ w = w' := by
  go_enter Try.func33, Try.ntmps33
  go_wp2
  go_ret
  exact ⟨rfl, rfl⟩
theorem behind15_ok (s : ByteArray) (n : Int) (w : World) (h0 : 0 ≤ n) (h : n ≤ s.size) :
    Calls Try.prog 34 #[.string s, .int .i64 n] w fun e w' => e = .returned (.string (s.extract n.toNat s.size)) ∧ w = w' := by
  go_enter Try.func34, Try.ntmps34
  go_wp2
  go_ret
  exact ⟨rfl, rfl⟩
theorem cut15_at (s : ByteArray) (n : Int) (m : Nat) (w : World) (hm : n.toNat = m) (h0 : 0 ≤ n) (h : n ≤ s.size) :
    Calls Try.prog 33 #[.string s, .int .i64 n] w fun e w' => e = .returned (.string (s.extract 0 m)) ∧ w = w' := hm ▸ cut15_ok s n w h0 h
theorem behind15_at (s : ByteArray) (n : Int) (m k : Nat) (w : World) (hm : n.toNat = m) (hk : s.size = k) (h0 : 0 ≤ n) (h : n ≤ s.size) :
    Calls Try.prog 34 #[.string s, .int .i64 n] w fun e w' => e = .returned (.string (s.extract m k)) ∧ w = w' := hk ▸ hm ▸ behind15_ok s n w h0 h
namespace Sp
def aS : ByteArray := udpB 1 2 1 2 ⟨#[97, 98]⟩
theorem aS_size : aS.size = 10 := by decide +kernel
theorem aS_pre : ((aS.extract 0 6).toList == [0, 1, 0, 2, 0, 10]) = true := by rw [ByteArray.toList_eq]; decide +kernel
theorem udpV_at (x y : Int) (s : ByteArray) (p q : Int) (d : ByteArray) (h : udpE x y s = 0) (hp : u2 s 0 = p) (hq : u2 s 2 = q) (hd : s.extract 8 (u2 s 4).toNat = d) :
    udpV x y s = .agg #[.int .u32 x, .int .u16 p, .int .u32 y, .int .u16 q, .string d] := by rw [udpV_yes _ _ _ h, hp, hq, hd]; rfl
theorem udpV_not (x y : Int) (s : ByteArray) (h : udpE x y s ≠ 0) : udpV x y s = .agg #[.int .u32 0, .int .u16 0, .int .u32 0, .int .u16 0, .string ⟨#[]⟩] := udpV_no _ _ _ h
theorem a1E : udpE 1 2 (aS ++ ⟨#[98, 101, 104, 105, 110, 100]⟩) = 0 := by decide +kernel
theorem a1V : udpV 1 2 (aS ++ ⟨#[98, 101, 104, 105, 110, 100]⟩) = .agg #[.int .u32 1, .int .u16 1, .int .u32 2, .int .u16 2, .string ⟨#[97, 98]⟩] :=
  udpV_at _ _ _ _ _ _ a1E (by decide +kernel) (by decide +kernel) (by decide +kernel)
theorem a2E : udpE 1 2 (aS.extract 0 6 ++ ⟨#[0, 0, 122, 122]⟩) = 0 := by decide +kernel
theorem a2V : udpV 1 2 (aS.extract 0 6 ++ ⟨#[0, 0, 122, 122]⟩) = .agg #[.int .u32 1, .int .u16 1, .int .u32 2, .int .u16 2, .string ⟨#[122, 122]⟩] :=
  udpV_at _ _ _ _ _ _ a2E (by decide +kernel) (by decide +kernel) (by decide +kernel)
theorem a3E : udpE 1 3 aS = 101 := by decide +kernel
theorem a3V : udpV 1 3 aS = .agg #[.int .u32 0, .int .u16 0, .int .u32 0, .int .u16 0, .string ⟨#[]⟩] := udpV_not _ _ _ (by rw [a3E]; decide)
theorem a4E : udpE 1 2 (aS.extract 0 9) = 10 := by decide +kernel
theorem a4V : udpV 1 2 (aS.extract 0 9) = .agg #[.int .u32 0, .int .u16 0, .int .u32 0, .int .u16 0, .string ⟨#[]⟩] := udpV_not _ _ _ (by rw [a4E]; decide)
theorem a5E : udpE 1 2 (aS.extract 0 4 ++ ⟨#[0, 7]⟩ ++ aS.extract 6 10) = 8 := by decide +kernel
theorem a5V : udpV 1 2 (aS.extract 0 4 ++ ⟨#[0, 7]⟩ ++ aS.extract 6 10) = .agg #[.int .u32 0, .int .u16 0, .int .u32 0, .int .u16 0, .string ⟨#[]⟩] := udpV_not _ _ _ (by rw [a5E]; decide)
end Sp
end Go.Proofs.Ytlpeefemffmpmaa
