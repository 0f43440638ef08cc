/- More stops of the evaluation: masks, shifts, remainders. -/
import Derived.Test.YtmdfkggflainbaaVmR
namespace Go.Proofs.Ytmdfkggflainbaa.VM
open Go.RowKit
set_option linter.unusedVariables false
theorem Test.tmodEq {a n c : Int} {A B : Prop} (h0 : 0 ≤ a) (f : a % n = c → A) (g : ¬ a % n = c → B) : Test (a.tmod n == c) A B := by
  rw [Int.tmod_eq_emod_of_nonneg h0]; exact ⟨fun h => f (beq_iff_eq.1 h), fun h => g (fun e => by rw [beq_iff_eq.2 e] at h; cases h)⟩
theorem Test.tmodNe {a n c : Int} {A B : Prop} (h0 : 0 ≤ a) (f : ¬ a % n = c → A) (g : a % n = c → B) : Test (a.tmod n != c) A B := by
  rw [Int.tmod_eq_emod_of_nonneg h0]; exact ⟨fun h => f (bne_iff_ne.1 h), fun h => g (by simpa using h)⟩
theorem Test.tmodEqT {a n c : Int} {A B : Prop} (h0 : 0 ≤ a) (h : a % n = c) (f : A) : Test (a.tmod n == c) A B := .tmodEq h0 (fun _ => f) (fun e => absurd h e)
theorem Test.tmodEqF {a n c : Int} {A B : Prop} (h0 : 0 ≤ a) (h : ¬ a % n = c) (f : B) : Test (a.tmod n == c) A B := .tmodEq h0 (fun e => absurd e h) (fun _ => f)
theorem Test.tmodNeT {a n c : Int} {A B : Prop} (h0 : 0 ≤ a) (h : ¬ a % n = c) (f : A) : Test (a.tmod n != c) A B := .tmodNe h0 (fun _ => f) (fun e => absurd e h)
theorem Test.tmodNeF {a n c : Int} {A B : Prop} (h0 : 0 ≤ a) (h : a % n = c) (f : B) : Test (a.tmod n != c) A B := .tmodNe h0 (fun e => absurd h e) (fun _ => f)
theorem Test.notT {b : Bool} {A B : Prop} (h : b = false) (a : A) : Test (!b) A B := by subst h; exact .tt a
theorem Test.notF {b : Bool} {A B : Prop} (h : b = true) (a : B) : Test (!b) A B := by subst h; exact .ff a
theorem Test.notIe {a c : Int} {A B : Prop} (f : ¬ a = c → A) (g : a = c → B) : Test (!(a == c)) A B := ⟨fun h => f (fun e => by rw [beq_iff_eq.2 e] at h; cases h), fun h => g (by simpa using h)⟩
theorem Test.notD {p : Prop} [Decidable p] {A B : Prop} (f : ¬ p → A) (g : p → B) : Test (!decide p) A B := ⟨fun h => f (fun e => by rw [decide_eq_true e] at h; cases h), fun h => g (by simpa using h)⟩
theorem Test.notS {b : Bool} {A B : Prop} (f : b = false → A) (g : b = true → B) : Test (!b) A B := ⟨fun h => f (by simpa using h), fun h => g (by simpa using h)⟩
theorem Test.decC {b : Bool} {A B : Prop} {p : Prop} [Decidable p] (f : p → A) (g : ¬ p → B) (h : b = decide p) : Test b A B := by subst h; exact .d f g
/-- A test against nothing: of 64 bits, of 32. -/
theorem nat_band_mask (a n : Nat) : a &&& (2 ^ n - 1) = a % 2 ^ n := Nat.and_two_pow_sub_one_eq_mod a n
theorem band_mask (b n : Nat) (a c : Int) (h0 : 0 ≤ a) (h : a < 2 ^ b) (hc : c = 2 ^ n - 1) (hn : n < b) : ((BitVec.ofInt b a &&& BitVec.ofInt b c).toNat : Int) = a % 2 ^ n := by
  subst hc
  have hp : (2 : Int) ^ n < 2 ^ b := by
    have := Nat.pow_lt_pow_right (show 1 < 2 by omega) hn
    exact_mod_cast this
  have hp0 : (0 : Int) < 2 ^ n := Int.pow_pos (by omega)
  rw [band_nat b a _ h0 h (by omega) (by omega)]
  obtain ⟨k, rfl⟩ := Int.eq_ofNat_of_zero_le h0
  have e : ((2 : Int) ^ n - 1).toNat = 2 ^ n - 1 := by
    have : ((2 : Int) ^ n) = ((2 ^ n : Nat) : Int) := by simp
    rw [this]; omega
  rw [e, Int.toNat_natCast, nat_band_mask]
  simp
theorem nat_band_bit (k n : Nat) : k &&& 2 ^ n = k / 2 ^ n % 2 * 2 ^ n := by
  apply Nat.eq_of_testBit_eq
  intro i
  have e : k / 2 ^ n % 2 = k / 2 ^ n % 2 ^ 1 := by simp
  rw [e, Nat.testBit_mul_two_pow, Nat.testBit_mod_two_pow, Nat.testBit_div_two_pow, Nat.testBit_and, Nat.testBit_two_pow]
  by_cases c : n = i
  · subst c; simp
  · have : ¬ (n ≤ i ∧ i - n < 1) := by omega
    by_cases c2 : n ≤ i
    · have c3 : ¬ i - n < 1 := by omega
      simp [c, c3]
    · simp [c, c2]
theorem band_bit (b n : Nat) (a c : Int) (h0 : 0 ≤ a) (h : a < 2 ^ b) (hc : c = 2 ^ n) (hn : n < b) : ((BitVec.ofInt b a &&& BitVec.ofInt b c).toNat : Int) = a / 2 ^ n % 2 * 2 ^ n := by
  subst hc
  have hp : (2 : Int) ^ n < 2 ^ b := by
    have := Nat.pow_lt_pow_right (show 1 < 2 by omega) hn
    exact_mod_cast this
  have hp0 : (0 : Int) < 2 ^ n := Int.pow_pos (by omega)
  rw [band_nat b a _ h0 h (by omega) hp]
  obtain ⟨k, rfl⟩ := Int.eq_ofNat_of_zero_le h0
  have e : ((2 : Int) ^ n).toNat = 2 ^ n := by
    have : ((2 : Int) ^ n) = ((2 ^ n : Nat) : Int) := by simp
    rw [this]; omega
  rw [e, Int.toNat_natCast, nat_band_bit]
  simp
theorem bor_mask (b n m : Nat) (a c : Int) (h0 : 0 ≤ a) (h : a < 2 ^ n) (hc : c = 2 ^ n * m) (hb : (2 : Int) ^ n * m < 2 ^ b) (hn : n < b) : ((BitVec.ofInt b a ||| BitVec.ofInt b c).toNat : Int) = a + c := by
  subst hc
  have hp : (2 : Int) ^ n < 2 ^ b := by
    have := Nat.pow_lt_pow_right (show 1 < 2 by omega) hn
    exact_mod_cast this
  have hm : (0 : Int) ≤ 2 ^ n * m := Int.mul_nonneg (Int.le_of_lt (Int.pow_pos (by omega))) (by omega)
  rw [bor_nat b a _ h0 (by omega) hm hb]
  obtain ⟨k, rfl⟩ := Int.eq_ofNat_of_zero_le h0
  have e : ((2 : Int) ^ n * m).toNat = 2 ^ n * m := by
    have : ((2 : Int) ^ n * m) = ((2 ^ n * m : Nat) : Int) := by simp
    rw [this]; omega
  have hk : k < 2 ^ n := by exact_mod_cast h
  rw [e, Int.toNat_natCast, Nat.or_comm, ← Nat.two_pow_add_eq_or_of_lt hk]
  simp; omega
theorem bor_swap (b : Nat) (a c : Int) : ((BitVec.ofInt b a ||| BitVec.ofInt b c).toNat : Int) = ((BitVec.ofInt b c ||| BitVec.ofInt b a).toNat : Int) := by rw [BitVec.or_comm]
theorem Arith.andu8_1 {a : Int} {K : Int → Prop} (h : 0 ≤ a ∧ a ≤ 255) (g : K (a % 2)) : Arith .u8 (BitVec.ofInt IntKind.u8.bits a &&& BitVec.ofInt IntKind.u8.bits 1).toNat K := by
  have e := band_mask IntKind.u8.bits 1 a 1 h.1 (show a < (256 : Int) by omega) (by decide) (by decide)
  rw [e]; exact .u8 (by omega) g
theorem Arith.andu8_3 {a : Int} {K : Int → Prop} (h : 0 ≤ a ∧ a ≤ 255) (g : K (a % 4)) : Arith .u8 (BitVec.ofInt IntKind.u8.bits a &&& BitVec.ofInt IntKind.u8.bits 3).toNat K := by
  have e := band_mask IntKind.u8.bits 2 a 3 h.1 (show a < (256 : Int) by omega) (by decide) (by decide)
  rw [e]; exact .u8 (by omega) g
theorem Arith.andu8_7 {a : Int} {K : Int → Prop} (h : 0 ≤ a ∧ a ≤ 255) (g : K (a % 8)) : Arith .u8 (BitVec.ofInt IntKind.u8.bits a &&& BitVec.ofInt IntKind.u8.bits 7).toNat K := by
  have e := band_mask IntKind.u8.bits 3 a 7 h.1 (show a < (256 : Int) by omega) (by decide) (by decide)
  rw [e]; exact .u8 (by omega) g
theorem Arith.andu8_15 {a : Int} {K : Int → Prop} (h : 0 ≤ a ∧ a ≤ 255) (g : K (a % 16)) : Arith .u8 (BitVec.ofInt IntKind.u8.bits a &&& BitVec.ofInt IntKind.u8.bits 15).toNat K := by
  have e := band_mask IntKind.u8.bits 4 a 15 h.1 (show a < (256 : Int) by omega) (by decide) (by decide)
  rw [e]; exact .u8 (by omega) g
theorem Arith.andu8_31 {a : Int} {K : Int → Prop} (h : 0 ≤ a ∧ a ≤ 255) (g : K (a % 32)) : Arith .u8 (BitVec.ofInt IntKind.u8.bits a &&& BitVec.ofInt IntKind.u8.bits 31).toNat K := by
  have e := band_mask IntKind.u8.bits 5 a 31 h.1 (show a < (256 : Int) by omega) (by decide) (by decide)
  rw [e]; exact .u8 (by omega) g
theorem Arith.andu8_63 {a : Int} {K : Int → Prop} (h : 0 ≤ a ∧ a ≤ 255) (g : K (a % 64)) : Arith .u8 (BitVec.ofInt IntKind.u8.bits a &&& BitVec.ofInt IntKind.u8.bits 63).toNat K := by
  have e := band_mask IntKind.u8.bits 6 a 63 h.1 (show a < (256 : Int) by omega) (by decide) (by decide)
  rw [e]; exact .u8 (by omega) g
theorem Arith.andu8_127 {a : Int} {K : Int → Prop} (h : 0 ≤ a ∧ a ≤ 255) (g : K (a % 128)) : Arith .u8 (BitVec.ofInt IntKind.u8.bits a &&& BitVec.ofInt IntKind.u8.bits 127).toNat K := by
  have e := band_mask IntKind.u8.bits 7 a 127 h.1 (show a < (256 : Int) by omega) (by decide) (by decide)
  rw [e]; exact .u8 (by omega) g
theorem Arith.andu16_1 {a : Int} {K : Int → Prop} (h : 0 ≤ a ∧ a ≤ 65535) (g : K (a % 2)) : Arith .u16 (BitVec.ofInt IntKind.u16.bits a &&& BitVec.ofInt IntKind.u16.bits 1).toNat K := by
  have e := band_mask IntKind.u16.bits 1 a 1 h.1 (show a < (65536 : Int) by omega) (by decide) (by decide)
  rw [e]; exact .u16 (by omega) g
theorem Arith.andu16_3 {a : Int} {K : Int → Prop} (h : 0 ≤ a ∧ a ≤ 65535) (g : K (a % 4)) : Arith .u16 (BitVec.ofInt IntKind.u16.bits a &&& BitVec.ofInt IntKind.u16.bits 3).toNat K := by
  have e := band_mask IntKind.u16.bits 2 a 3 h.1 (show a < (65536 : Int) by omega) (by decide) (by decide)
  rw [e]; exact .u16 (by omega) g
theorem Arith.andu16_7 {a : Int} {K : Int → Prop} (h : 0 ≤ a ∧ a ≤ 65535) (g : K (a % 8)) : Arith .u16 (BitVec.ofInt IntKind.u16.bits a &&& BitVec.ofInt IntKind.u16.bits 7).toNat K := by
  have e := band_mask IntKind.u16.bits 3 a 7 h.1 (show a < (65536 : Int) by omega) (by decide) (by decide)
  rw [e]; exact .u16 (by omega) g
theorem Arith.andu16_15 {a : Int} {K : Int → Prop} (h : 0 ≤ a ∧ a ≤ 65535) (g : K (a % 16)) : Arith .u16 (BitVec.ofInt IntKind.u16.bits a &&& BitVec.ofInt IntKind.u16.bits 15).toNat K := by
  have e := band_mask IntKind.u16.bits 4 a 15 h.1 (show a < (65536 : Int) by omega) (by decide) (by decide)
  rw [e]; exact .u16 (by omega) g
theorem Arith.andu16_31 {a : Int} {K : Int → Prop} (h : 0 ≤ a ∧ a ≤ 65535) (g : K (a % 32)) : Arith .u16 (BitVec.ofInt IntKind.u16.bits a &&& BitVec.ofInt IntKind.u16.bits 31).toNat K := by
  have e := band_mask IntKind.u16.bits 5 a 31 h.1 (show a < (65536 : Int) by omega) (by decide) (by decide)
  rw [e]; exact .u16 (by omega) g
theorem Arith.andu16_63 {a : Int} {K : Int → Prop} (h : 0 ≤ a ∧ a ≤ 65535) (g : K (a % 64)) : Arith .u16 (BitVec.ofInt IntKind.u16.bits a &&& BitVec.ofInt IntKind.u16.bits 63).toNat K := by
  have e := band_mask IntKind.u16.bits 6 a 63 h.1 (show a < (65536 : Int) by omega) (by decide) (by decide)
  rw [e]; exact .u16 (by omega) g
theorem Arith.andu16_127 {a : Int} {K : Int → Prop} (h : 0 ≤ a ∧ a ≤ 65535) (g : K (a % 128)) : Arith .u16 (BitVec.ofInt IntKind.u16.bits a &&& BitVec.ofInt IntKind.u16.bits 127).toNat K := by
  have e := band_mask IntKind.u16.bits 7 a 127 h.1 (show a < (65536 : Int) by omega) (by decide) (by decide)
  rw [e]; exact .u16 (by omega) g
theorem Arith.andu16_255 {a : Int} {K : Int → Prop} (h : 0 ≤ a ∧ a ≤ 65535) (g : K (a % 256)) : Arith .u16 (BitVec.ofInt IntKind.u16.bits a &&& BitVec.ofInt IntKind.u16.bits 255).toNat K := by
  have e := band_mask IntKind.u16.bits 8 a 255 h.1 (show a < (65536 : Int) by omega) (by decide) (by decide)
  rw [e]; exact .u16 (by omega) g
theorem Arith.andu16_8191 {a : Int} {K : Int → Prop} (h : 0 ≤ a ∧ a ≤ 65535) (g : K (a % 8192)) : Arith .u16 (BitVec.ofInt IntKind.u16.bits a &&& BitVec.ofInt IntKind.u16.bits 8191).toNat K := by
  have e := band_mask IntKind.u16.bits 13 a 8191 h.1 (show a < (65536 : Int) by omega) (by decide) (by decide)
  rw [e]; exact .u16 (by omega) g
theorem Arith.andu16_32767 {a : Int} {K : Int → Prop} (h : 0 ≤ a ∧ a ≤ 65535) (g : K (a % 32768)) : Arith .u16 (BitVec.ofInt IntKind.u16.bits a &&& BitVec.ofInt IntKind.u16.bits 32767).toNat K := by
  have e := band_mask IntKind.u16.bits 15 a 32767 h.1 (show a < (65536 : Int) by omega) (by decide) (by decide)
  rw [e]; exact .u16 (by omega) g
theorem Arith.bitu16_8192 {a : Int} {K : Int → Prop} (h : 0 ≤ a ∧ a ≤ 65535) (g : K (a / 8192 % 2 * 8192)) : Arith .u16 (BitVec.ofInt IntKind.u16.bits a &&& BitVec.ofInt IntKind.u16.bits 8192).toNat K := by
  have e := band_bit IntKind.u16.bits 13 a 8192 h.1 (show a < (65536 : Int) by omega) (by decide) (by decide)
  rw [e]; exact .u16 (by omega) g
theorem Arith.bitu16_16384 {a : Int} {K : Int → Prop} (h : 0 ≤ a ∧ a ≤ 65535) (g : K (a / 16384 % 2 * 16384)) : Arith .u16 (BitVec.ofInt IntKind.u16.bits a &&& BitVec.ofInt IntKind.u16.bits 16384).toNat K := by
  have e := band_bit IntKind.u16.bits 14 a 16384 h.1 (show a < (65536 : Int) by omega) (by decide) (by decide)
  rw [e]; exact .u16 (by omega) g
theorem Arith.bitu16_32768 {a : Int} {K : Int → Prop} (h : 0 ≤ a ∧ a ≤ 65535) (g : K (a / 32768 % 2 * 32768)) : Arith .u16 (BitVec.ofInt IntKind.u16.bits a &&& BitVec.ofInt IntKind.u16.bits 32768).toNat K := by
  have e := band_bit IntKind.u16.bits 15 a 32768 h.1 (show a < (65536 : Int) by omega) (by decide) (by decide)
  rw [e]; exact .u16 (by omega) g
theorem Arith.andu32_1 {a : Int} {K : Int → Prop} (h : 0 ≤ a ∧ a ≤ 4294967295) (g : K (a % 2)) : Arith .u32 (BitVec.ofInt IntKind.u32.bits a &&& BitVec.ofInt IntKind.u32.bits 1).toNat K := by
  have e := band_mask IntKind.u32.bits 1 a 1 h.1 (show a < (4294967296 : Int) by omega) (by decide) (by decide)
  rw [e]; exact .u32 (by omega) g
theorem Arith.andu32_3 {a : Int} {K : Int → Prop} (h : 0 ≤ a ∧ a ≤ 4294967295) (g : K (a % 4)) : Arith .u32 (BitVec.ofInt IntKind.u32.bits a &&& BitVec.ofInt IntKind.u32.bits 3).toNat K := by
  have e := band_mask IntKind.u32.bits 2 a 3 h.1 (show a < (4294967296 : Int) by omega) (by decide) (by decide)
  rw [e]; exact .u32 (by omega) g
theorem Arith.andu32_7 {a : Int} {K : Int → Prop} (h : 0 ≤ a ∧ a ≤ 4294967295) (g : K (a % 8)) : Arith .u32 (BitVec.ofInt IntKind.u32.bits a &&& BitVec.ofInt IntKind.u32.bits 7).toNat K := by
  have e := band_mask IntKind.u32.bits 3 a 7 h.1 (show a < (4294967296 : Int) by omega) (by decide) (by decide)
  rw [e]; exact .u32 (by omega) g
theorem Arith.andu32_15 {a : Int} {K : Int → Prop} (h : 0 ≤ a ∧ a ≤ 4294967295) (g : K (a % 16)) : Arith .u32 (BitVec.ofInt IntKind.u32.bits a &&& BitVec.ofInt IntKind.u32.bits 15).toNat K := by
  have e := band_mask IntKind.u32.bits 4 a 15 h.1 (show a < (4294967296 : Int) by omega) (by decide) (by decide)
  rw [e]; exact .u32 (by omega) g
theorem Arith.andu32_31 {a : Int} {K : Int → Prop} (h : 0 ≤ a ∧ a ≤ 4294967295) (g : K (a % 32)) : Arith .u32 (BitVec.ofInt IntKind.u32.bits a &&& BitVec.ofInt IntKind.u32.bits 31).toNat K := by
  have e := band_mask IntKind.u32.bits 5 a 31 h.1 (show a < (4294967296 : Int) by omega) (by decide) (by decide)
  rw [e]; exact .u32 (by omega) g
theorem Arith.andu32_63 {a : Int} {K : Int → Prop} (h : 0 ≤ a ∧ a ≤ 4294967295) (g : K (a % 64)) : Arith .u32 (BitVec.ofInt IntKind.u32.bits a &&& BitVec.ofInt IntKind.u32.bits 63).toNat K := by
  have e := band_mask IntKind.u32.bits 6 a 63 h.1 (show a < (4294967296 : Int) by omega) (by decide) (by decide)
  rw [e]; exact .u32 (by omega) g
theorem Arith.andu32_127 {a : Int} {K : Int → Prop} (h : 0 ≤ a ∧ a ≤ 4294967295) (g : K (a % 128)) : Arith .u32 (BitVec.ofInt IntKind.u32.bits a &&& BitVec.ofInt IntKind.u32.bits 127).toNat K := by
  have e := band_mask IntKind.u32.bits 7 a 127 h.1 (show a < (4294967296 : Int) by omega) (by decide) (by decide)
  rw [e]; exact .u32 (by omega) g
theorem Arith.andu32_255 {a : Int} {K : Int → Prop} (h : 0 ≤ a ∧ a ≤ 4294967295) (g : K (a % 256)) : Arith .u32 (BitVec.ofInt IntKind.u32.bits a &&& BitVec.ofInt IntKind.u32.bits 255).toNat K := by
  have e := band_mask IntKind.u32.bits 8 a 255 h.1 (show a < (4294967296 : Int) by omega) (by decide) (by decide)
  rw [e]; exact .u32 (by omega) g
theorem Arith.andu32_8191 {a : Int} {K : Int → Prop} (h : 0 ≤ a ∧ a ≤ 4294967295) (g : K (a % 8192)) : Arith .u32 (BitVec.ofInt IntKind.u32.bits a &&& BitVec.ofInt IntKind.u32.bits 8191).toNat K := by
  have e := band_mask IntKind.u32.bits 13 a 8191 h.1 (show a < (4294967296 : Int) by omega) (by decide) (by decide)
  rw [e]; exact .u32 (by omega) g
theorem Arith.andu32_32767 {a : Int} {K : Int → Prop} (h : 0 ≤ a ∧ a ≤ 4294967295) (g : K (a % 32768)) : Arith .u32 (BitVec.ofInt IntKind.u32.bits a &&& BitVec.ofInt IntKind.u32.bits 32767).toNat K := by
  have e := band_mask IntKind.u32.bits 15 a 32767 h.1 (show a < (4294967296 : Int) by omega) (by decide) (by decide)
  rw [e]; exact .u32 (by omega) g
theorem Arith.andu32_65535 {a : Int} {K : Int → Prop} (h : 0 ≤ a ∧ a ≤ 4294967295) (g : K (a % 65536)) : Arith .u32 (BitVec.ofInt IntKind.u32.bits a &&& BitVec.ofInt IntKind.u32.bits 65535).toNat K := by
  have e := band_mask IntKind.u32.bits 16 a 65535 h.1 (show a < (4294967296 : Int) by omega) (by decide) (by decide)
  rw [e]; exact .u32 (by omega) g
theorem Arith.andu32_16777215 {a : Int} {K : Int → Prop} (h : 0 ≤ a ∧ a ≤ 4294967295) (g : K (a % 16777216)) : Arith .u32 (BitVec.ofInt IntKind.u32.bits a &&& BitVec.ofInt IntKind.u32.bits 16777215).toNat K := by
  have e := band_mask IntKind.u32.bits 24 a 16777215 h.1 (show a < (4294967296 : Int) by omega) (by decide) (by decide)
  rw [e]; exact .u32 (by omega) g
theorem Arith.andu32_2147483647 {a : Int} {K : Int → Prop} (h : 0 ≤ a ∧ a ≤ 4294967295) (g : K (a % 2147483648)) : Arith .u32 (BitVec.ofInt IntKind.u32.bits a &&& BitVec.ofInt IntKind.u32.bits 2147483647).toNat K := by
  have e := band_mask IntKind.u32.bits 31 a 2147483647 h.1 (show a < (4294967296 : Int) by omega) (by decide) (by decide)
  rw [e]; exact .u32 (by omega) g
theorem Arith.bitu32_8192 {a : Int} {K : Int → Prop} (h : 0 ≤ a ∧ a ≤ 4294967295) (g : K (a / 8192 % 2 * 8192)) : Arith .u32 (BitVec.ofInt IntKind.u32.bits a &&& BitVec.ofInt IntKind.u32.bits 8192).toNat K := by
  have e := band_bit IntKind.u32.bits 13 a 8192 h.1 (show a < (4294967296 : Int) by omega) (by decide) (by decide)
  rw [e]; exact .u32 (by omega) g
theorem Arith.bitu32_16384 {a : Int} {K : Int → Prop} (h : 0 ≤ a ∧ a ≤ 4294967295) (g : K (a / 16384 % 2 * 16384)) : Arith .u32 (BitVec.ofInt IntKind.u32.bits a &&& BitVec.ofInt IntKind.u32.bits 16384).toNat K := by
  have e := band_bit IntKind.u32.bits 14 a 16384 h.1 (show a < (4294967296 : Int) by omega) (by decide) (by decide)
  rw [e]; exact .u32 (by omega) g
theorem Arith.bitu32_32768 {a : Int} {K : Int → Prop} (h : 0 ≤ a ∧ a ≤ 4294967295) (g : K (a / 32768 % 2 * 32768)) : Arith .u32 (BitVec.ofInt IntKind.u32.bits a &&& BitVec.ofInt IntKind.u32.bits 32768).toNat K := by
  have e := band_bit IntKind.u32.bits 15 a 32768 h.1 (show a < (4294967296 : Int) by omega) (by decide) (by decide)
  rw [e]; exact .u32 (by omega) g
theorem Arith.andu64_1 {a : Int} {K : Int → Prop} (h : 0 ≤ a ∧ a ≤ 18446744073709551615) (g : K (a % 2)) : Arith .u64 (BitVec.ofInt IntKind.u64.bits a &&& BitVec.ofInt IntKind.u64.bits 1).toNat K := by
  have e := band_mask IntKind.u64.bits 1 a 1 h.1 (show a < (18446744073709551616 : Int) by omega) (by decide) (by decide)
  rw [e]; exact .u64 (by omega) g
theorem Arith.andu64_3 {a : Int} {K : Int → Prop} (h : 0 ≤ a ∧ a ≤ 18446744073709551615) (g : K (a % 4)) : Arith .u64 (BitVec.ofInt IntKind.u64.bits a &&& BitVec.ofInt IntKind.u64.bits 3).toNat K := by
  have e := band_mask IntKind.u64.bits 2 a 3 h.1 (show a < (18446744073709551616 : Int) by omega) (by decide) (by decide)
  rw [e]; exact .u64 (by omega) g
theorem Arith.andu64_7 {a : Int} {K : Int → Prop} (h : 0 ≤ a ∧ a ≤ 18446744073709551615) (g : K (a % 8)) : Arith .u64 (BitVec.ofInt IntKind.u64.bits a &&& BitVec.ofInt IntKind.u64.bits 7).toNat K := by
  have e := band_mask IntKind.u64.bits 3 a 7 h.1 (show a < (18446744073709551616 : Int) by omega) (by decide) (by decide)
  rw [e]; exact .u64 (by omega) g
theorem Arith.andu64_15 {a : Int} {K : Int → Prop} (h : 0 ≤ a ∧ a ≤ 18446744073709551615) (g : K (a % 16)) : Arith .u64 (BitVec.ofInt IntKind.u64.bits a &&& BitVec.ofInt IntKind.u64.bits 15).toNat K := by
  have e := band_mask IntKind.u64.bits 4 a 15 h.1 (show a < (18446744073709551616 : Int) by omega) (by decide) (by decide)
  rw [e]; exact .u64 (by omega) g
theorem Arith.andu64_31 {a : Int} {K : Int → Prop} (h : 0 ≤ a ∧ a ≤ 18446744073709551615) (g : K (a % 32)) : Arith .u64 (BitVec.ofInt IntKind.u64.bits a &&& BitVec.ofInt IntKind.u64.bits 31).toNat K := by
  have e := band_mask IntKind.u64.bits 5 a 31 h.1 (show a < (18446744073709551616 : Int) by omega) (by decide) (by decide)
  rw [e]; exact .u64 (by omega) g
theorem Arith.andu64_63 {a : Int} {K : Int → Prop} (h : 0 ≤ a ∧ a ≤ 18446744073709551615) (g : K (a % 64)) : Arith .u64 (BitVec.ofInt IntKind.u64.bits a &&& BitVec.ofInt IntKind.u64.bits 63).toNat K := by
  have e := band_mask IntKind.u64.bits 6 a 63 h.1 (show a < (18446744073709551616 : Int) by omega) (by decide) (by decide)
  rw [e]; exact .u64 (by omega) g
theorem Arith.andu64_127 {a : Int} {K : Int → Prop} (h : 0 ≤ a ∧ a ≤ 18446744073709551615) (g : K (a % 128)) : Arith .u64 (BitVec.ofInt IntKind.u64.bits a &&& BitVec.ofInt IntKind.u64.bits 127).toNat K := by
  have e := band_mask IntKind.u64.bits 7 a 127 h.1 (show a < (18446744073709551616 : Int) by omega) (by decide) (by decide)
  rw [e]; exact .u64 (by omega) g
theorem Arith.andu64_255 {a : Int} {K : Int → Prop} (h : 0 ≤ a ∧ a ≤ 18446744073709551615) (g : K (a % 256)) : Arith .u64 (BitVec.ofInt IntKind.u64.bits a &&& BitVec.ofInt IntKind.u64.bits 255).toNat K := by
  have e := band_mask IntKind.u64.bits 8 a 255 h.1 (show a < (18446744073709551616 : Int) by omega) (by decide) (by decide)
  rw [e]; exact .u64 (by omega) g
theorem Arith.andu64_8191 {a : Int} {K : Int → Prop} (h : 0 ≤ a ∧ a ≤ 18446744073709551615) (g : K (a % 8192)) : Arith .u64 (BitVec.ofInt IntKind.u64.bits a &&& BitVec.ofInt IntKind.u64.bits 8191).toNat K := by
  have e := band_mask IntKind.u64.bits 13 a 8191 h.1 (show a < (18446744073709551616 : Int) by omega) (by decide) (by decide)
  rw [e]; exact .u64 (by omega) g
theorem Arith.andu64_32767 {a : Int} {K : Int → Prop} (h : 0 ≤ a ∧ a ≤ 18446744073709551615) (g : K (a % 32768)) : Arith .u64 (BitVec.ofInt IntKind.u64.bits a &&& BitVec.ofInt IntKind.u64.bits 32767).toNat K := by
  have e := band_mask IntKind.u64.bits 15 a 32767 h.1 (show a < (18446744073709551616 : Int) by omega) (by decide) (by decide)
  rw [e]; exact .u64 (by omega) g
theorem Arith.andu64_65535 {a : Int} {K : Int → Prop} (h : 0 ≤ a ∧ a ≤ 18446744073709551615) (g : K (a % 65536)) : Arith .u64 (BitVec.ofInt IntKind.u64.bits a &&& BitVec.ofInt IntKind.u64.bits 65535).toNat K := by
  have e := band_mask IntKind.u64.bits 16 a 65535 h.1 (show a < (18446744073709551616 : Int) by omega) (by decide) (by decide)
  rw [e]; exact .u64 (by omega) g
theorem Arith.andu64_16777215 {a : Int} {K : Int → Prop} (h : 0 ≤ a ∧ a ≤ 18446744073709551615) (g : K (a % 16777216)) : Arith .u64 (BitVec.ofInt IntKind.u64.bits a &&& BitVec.ofInt IntKind.u64.bits 16777215).toNat K := by
  have e := band_mask IntKind.u64.bits 24 a 16777215 h.1 (show a < (18446744073709551616 : Int) by omega) (by decide) (by decide)
  rw [e]; exact .u64 (by omega) g
theorem Arith.andu64_2147483647 {a : Int} {K : Int → Prop} (h : 0 ≤ a ∧ a ≤ 18446744073709551615) (g : K (a % 2147483648)) : Arith .u64 (BitVec.ofInt IntKind.u64.bits a &&& BitVec.ofInt IntKind.u64.bits 2147483647).toNat K := by
  have e := band_mask IntKind.u64.bits 31 a 2147483647 h.1 (show a < (18446744073709551616 : Int) by omega) (by decide) (by decide)
  rw [e]; exact .u64 (by omega) g
theorem Arith.bitu64_8192 {a : Int} {K : Int → Prop} (h : 0 ≤ a ∧ a ≤ 18446744073709551615) (g : K (a / 8192 % 2 * 8192)) : Arith .u64 (BitVec.ofInt IntKind.u64.bits a &&& BitVec.ofInt IntKind.u64.bits 8192).toNat K := by
  have e := band_bit IntKind.u64.bits 13 a 8192 h.1 (show a < (18446744073709551616 : Int) by omega) (by decide) (by decide)
  rw [e]; exact .u64 (by omega) g
theorem Arith.bitu64_16384 {a : Int} {K : Int → Prop} (h : 0 ≤ a ∧ a ≤ 18446744073709551615) (g : K (a / 16384 % 2 * 16384)) : Arith .u64 (BitVec.ofInt IntKind.u64.bits a &&& BitVec.ofInt IntKind.u64.bits 16384).toNat K := by
  have e := band_bit IntKind.u64.bits 14 a 16384 h.1 (show a < (18446744073709551616 : Int) by omega) (by decide) (by decide)
  rw [e]; exact .u64 (by omega) g
theorem Arith.bitu64_32768 {a : Int} {K : Int → Prop} (h : 0 ≤ a ∧ a ≤ 18446744073709551615) (g : K (a / 32768 % 2 * 32768)) : Arith .u64 (BitVec.ofInt IntKind.u64.bits a &&& BitVec.ofInt IntKind.u64.bits 32768).toNat K := by
  have e := band_bit IntKind.u64.bits 15 a 32768 h.1 (show a < (18446744073709551616 : Int) by omega) (by decide) (by decide)
  rw [e]; exact .u64 (by omega) g
theorem Arith.andi64_1 {a : Int} {K : Int → Prop} (h : 0 ≤ a ∧ a ≤ 9223372036854775807) (g : K (a % 2)) : Arith .i64 (BitVec.ofInt IntKind.i64.bits a &&& BitVec.ofInt IntKind.i64.bits 1).toNat K := by
  have e := band_mask IntKind.i64.bits 1 a 1 h.1 (show a < (18446744073709551616 : Int) by omega) (by decide) (by decide)
  rw [e]; exact .i64 (by omega) g
theorem Arith.andi64_3 {a : Int} {K : Int → Prop} (h : 0 ≤ a ∧ a ≤ 9223372036854775807) (g : K (a % 4)) : Arith .i64 (BitVec.ofInt IntKind.i64.bits a &&& BitVec.ofInt IntKind.i64.bits 3).toNat K := by
  have e := band_mask IntKind.i64.bits 2 a 3 h.1 (show a < (18446744073709551616 : Int) by omega) (by decide) (by decide)
  rw [e]; exact .i64 (by omega) g
theorem Arith.andi64_7 {a : Int} {K : Int → Prop} (h : 0 ≤ a ∧ a ≤ 9223372036854775807) (g : K (a % 8)) : Arith .i64 (BitVec.ofInt IntKind.i64.bits a &&& BitVec.ofInt IntKind.i64.bits 7).toNat K := by
  have e := band_mask IntKind.i64.bits 3 a 7 h.1 (show a < (18446744073709551616 : Int) by omega) (by decide) (by decide)
  rw [e]; exact .i64 (by omega) g
theorem Arith.andi64_15 {a : Int} {K : Int → Prop} (h : 0 ≤ a ∧ a ≤ 9223372036854775807) (g : K (a % 16)) : Arith .i64 (BitVec.ofInt IntKind.i64.bits a &&& BitVec.ofInt IntKind.i64.bits 15).toNat K := by
  have e := band_mask IntKind.i64.bits 4 a 15 h.1 (show a < (18446744073709551616 : Int) by omega) (by decide) (by decide)
  rw [e]; exact .i64 (by omega) g
theorem Arith.andi64_31 {a : Int} {K : Int → Prop} (h : 0 ≤ a ∧ a ≤ 9223372036854775807) (g : K (a % 32)) : Arith .i64 (BitVec.ofInt IntKind.i64.bits a &&& BitVec.ofInt IntKind.i64.bits 31).toNat K := by
  have e := band_mask IntKind.i64.bits 5 a 31 h.1 (show a < (18446744073709551616 : Int) by omega) (by decide) (by decide)
  rw [e]; exact .i64 (by omega) g
theorem Arith.andi64_63 {a : Int} {K : Int → Prop} (h : 0 ≤ a ∧ a ≤ 9223372036854775807) (g : K (a % 64)) : Arith .i64 (BitVec.ofInt IntKind.i64.bits a &&& BitVec.ofInt IntKind.i64.bits 63).toNat K := by
  have e := band_mask IntKind.i64.bits 6 a 63 h.1 (show a < (18446744073709551616 : Int) by omega) (by decide) (by decide)
  rw [e]; exact .i64 (by omega) g
theorem Arith.andi64_127 {a : Int} {K : Int → Prop} (h : 0 ≤ a ∧ a ≤ 9223372036854775807) (g : K (a % 128)) : Arith .i64 (BitVec.ofInt IntKind.i64.bits a &&& BitVec.ofInt IntKind.i64.bits 127).toNat K := by
  have e := band_mask IntKind.i64.bits 7 a 127 h.1 (show a < (18446744073709551616 : Int) by omega) (by decide) (by decide)
  rw [e]; exact .i64 (by omega) g
theorem Arith.andi64_255 {a : Int} {K : Int → Prop} (h : 0 ≤ a ∧ a ≤ 9223372036854775807) (g : K (a % 256)) : Arith .i64 (BitVec.ofInt IntKind.i64.bits a &&& BitVec.ofInt IntKind.i64.bits 255).toNat K := by
  have e := band_mask IntKind.i64.bits 8 a 255 h.1 (show a < (18446744073709551616 : Int) by omega) (by decide) (by decide)
  rw [e]; exact .i64 (by omega) g
theorem Arith.andi64_8191 {a : Int} {K : Int → Prop} (h : 0 ≤ a ∧ a ≤ 9223372036854775807) (g : K (a % 8192)) : Arith .i64 (BitVec.ofInt IntKind.i64.bits a &&& BitVec.ofInt IntKind.i64.bits 8191).toNat K := by
  have e := band_mask IntKind.i64.bits 13 a 8191 h.1 (show a < (18446744073709551616 : Int) by omega) (by decide) (by decide)
  rw [e]; exact .i64 (by omega) g
theorem Arith.andi64_32767 {a : Int} {K : Int → Prop} (h : 0 ≤ a ∧ a ≤ 9223372036854775807) (g : K (a % 32768)) : Arith .i64 (BitVec.ofInt IntKind.i64.bits a &&& BitVec.ofInt IntKind.i64.bits 32767).toNat K := by
  have e := band_mask IntKind.i64.bits 15 a 32767 h.1 (show a < (18446744073709551616 : Int) by omega) (by decide) (by decide)
  rw [e]; exact .i64 (by omega) g
theorem Arith.andi64_65535 {a : Int} {K : Int → Prop} (h : 0 ≤ a ∧ a ≤ 9223372036854775807) (g : K (a % 65536)) : Arith .i64 (BitVec.ofInt IntKind.i64.bits a &&& BitVec.ofInt IntKind.i64.bits 65535).toNat K := by
  have e := band_mask IntKind.i64.bits 16 a 65535 h.1 (show a < (18446744073709551616 : Int) by omega) (by decide) (by decide)
  rw [e]; exact .i64 (by omega) g
theorem Arith.andi64_16777215 {a : Int} {K : Int → Prop} (h : 0 ≤ a ∧ a ≤ 9223372036854775807) (g : K (a % 16777216)) : Arith .i64 (BitVec.ofInt IntKind.i64.bits a &&& BitVec.ofInt IntKind.i64.bits 16777215).toNat K := by
  have e := band_mask IntKind.i64.bits 24 a 16777215 h.1 (show a < (18446744073709551616 : Int) by omega) (by decide) (by decide)
  rw [e]; exact .i64 (by omega) g
theorem Arith.andi64_2147483647 {a : Int} {K : Int → Prop} (h : 0 ≤ a ∧ a ≤ 9223372036854775807) (g : K (a % 2147483648)) : Arith .i64 (BitVec.ofInt IntKind.i64.bits a &&& BitVec.ofInt IntKind.i64.bits 2147483647).toNat K := by
  have e := band_mask IntKind.i64.bits 31 a 2147483647 h.1 (show a < (18446744073709551616 : Int) by omega) (by decide) (by decide)
  rw [e]; exact .i64 (by omega) g
theorem Arith.biti64_8192 {a : Int} {K : Int → Prop} (h : 0 ≤ a ∧ a ≤ 9223372036854775807) (g : K (a / 8192 % 2 * 8192)) : Arith .i64 (BitVec.ofInt IntKind.i64.bits a &&& BitVec.ofInt IntKind.i64.bits 8192).toNat K := by
  have e := band_bit IntKind.i64.bits 13 a 8192 h.1 (show a < (18446744073709551616 : Int) by omega) (by decide) (by decide)
  rw [e]; exact .i64 (by omega) g
theorem Arith.biti64_16384 {a : Int} {K : Int → Prop} (h : 0 ≤ a ∧ a ≤ 9223372036854775807) (g : K (a / 16384 % 2 * 16384)) : Arith .i64 (BitVec.ofInt IntKind.i64.bits a &&& BitVec.ofInt IntKind.i64.bits 16384).toNat K := by
  have e := band_bit IntKind.i64.bits 14 a 16384 h.1 (show a < (18446744073709551616 : Int) by omega) (by decide) (by decide)
  rw [e]; exact .i64 (by omega) g
theorem Arith.biti64_32768 {a : Int} {K : Int → Prop} (h : 0 ≤ a ∧ a ≤ 9223372036854775807) (g : K (a / 32768 % 2 * 32768)) : Arith .i64 (BitVec.ofInt IntKind.i64.bits a &&& BitVec.ofInt IntKind.i64.bits 32768).toNat K := by
  have e := band_bit IntKind.i64.bits 15 a 32768 h.1 (show a < (18446744073709551616 : Int) by omega) (by decide) (by decide)
  rw [e]; exact .i64 (by omega) g
theorem Arith.ori64_16384 {a : Int} {K : Int → Prop} (h : 0 ≤ a ∧ a < 16384) (g : K (a + 16384)) : Arith .i64 (BitVec.ofInt IntKind.i64.bits a ||| BitVec.ofInt IntKind.i64.bits 16384).toNat K := by
  have e := bor_mask IntKind.i64.bits 14 1 a 16384 h.1 (show a < (16384 : Int) by omega) (by decide) (by decide) (by decide)
  rw [e]; exact .i64 (by omega) g
theorem Arith.ori64_16384' {a : Int} {K : Int → Prop} (h : 0 ≤ a ∧ a < 16384) (g : K (16384 + a)) : Arith .i64 (BitVec.ofInt IntKind.i64.bits 16384 ||| BitVec.ofInt IntKind.i64.bits a).toNat K := by
  rw [bor_swap]; exact .ori64_16384 h (by rw [Int.add_comm]; exact g)
theorem Arith.ori64_8192 {a : Int} {K : Int → Prop} (h : 0 ≤ a ∧ a < 8192) (g : K (a + 8192)) : Arith .i64 (BitVec.ofInt IntKind.i64.bits a ||| BitVec.ofInt IntKind.i64.bits 8192).toNat K := by
  have e := bor_mask IntKind.i64.bits 13 1 a 8192 h.1 (show a < (8192 : Int) by omega) (by decide) (by decide) (by decide)
  rw [e]; exact .i64 (by omega) g
theorem Arith.ori64_8192' {a : Int} {K : Int → Prop} (h : 0 ≤ a ∧ a < 8192) (g : K (8192 + a)) : Arith .i64 (BitVec.ofInt IntKind.i64.bits 8192 ||| BitVec.ofInt IntKind.i64.bits a).toNat K := by
  rw [bor_swap]; exact .ori64_8192 h (by rw [Int.add_comm]; exact g)
theorem Arith.ori64_64 {a : Int} {K : Int → Prop} (h : 0 ≤ a ∧ a < 64) (g : K (a + 64)) : Arith .i64 (BitVec.ofInt IntKind.i64.bits a ||| BitVec.ofInt IntKind.i64.bits 64).toNat K := by
  have e := bor_mask IntKind.i64.bits 6 1 a 64 h.1 (show a < (64 : Int) by omega) (by decide) (by decide) (by decide)
  rw [e]; exact .i64 (by omega) g
theorem Arith.ori64_64' {a : Int} {K : Int → Prop} (h : 0 ≤ a ∧ a < 64) (g : K (64 + a)) : Arith .i64 (BitVec.ofInt IntKind.i64.bits 64 ||| BitVec.ofInt IntKind.i64.bits a).toNat K := by
  rw [bor_swap]; exact .ori64_64 h (by rw [Int.add_comm]; exact g)
theorem Arith.oru8_64 {a : Int} {K : Int → Prop} (h : 0 ≤ a ∧ a < 64) (g : K (a + 64)) : Arith .u8 (BitVec.ofInt IntKind.u8.bits a ||| BitVec.ofInt IntKind.u8.bits 64).toNat K := by
  have e := bor_mask IntKind.u8.bits 6 1 a 64 h.1 (show a < (64 : Int) by omega) (by decide) (by decide) (by decide)
  rw [e]; exact .u8 (by omega) g
theorem Arith.oru8_64' {a : Int} {K : Int → Prop} (h : 0 ≤ a ∧ a < 64) (g : K (64 + a)) : Arith .u8 (BitVec.ofInt IntKind.u8.bits 64 ||| BitVec.ofInt IntKind.u8.bits a).toNat K := by
  rw [bor_swap]; exact .oru8_64 h (by rw [Int.add_comm]; exact g)
theorem bor_hold_more (a : Int) (h : 0 ≤ a ∧ a < 8192) : ((BitVec.ofInt 64 (a + 16384) ||| BitVec.ofInt 64 8192).toNat : Int) = a + 16384 + 8192 := by
  have e1 := bor_mask 64 14 1 a 16384 h.1 (show a < (16384 : Int) by omega) (by decide) (by decide) (by decide)
  have e2 := bor_mask 64 13 3 a 24576 h.1 (show a < (8192 : Int) by omega) (by decide) (by decide) (by decide)
  have e3 : BitVec.ofInt 64 (a + 16384) = BitVec.ofInt 64 a ||| BitVec.ofInt 64 16384 := by
    apply BitVec.eq_of_toNat_eq
    have := ofInt_toNat 64 (a + 16384) (by omega) (show a + 16384 < (18446744073709551616 : Int) by omega)
    omega
  rw [e3, BitVec.or_assoc, show (BitVec.ofInt 64 16384 ||| BitVec.ofInt 64 8192) = BitVec.ofInt 64 24576 by decide, e2]; omega
theorem Arith.holdmore {a : Int} {K : Int → Prop} (h : 0 ≤ a ∧ a < 8192) (g : K (a + 16384 + 8192)) : Arith .i64 (BitVec.ofInt IntKind.i64.bits (a + 16384) ||| BitVec.ofInt IntKind.i64.bits 8192).toNat K := by
  have e := bor_hold_more a h
  rw [show ((BitVec.ofInt IntKind.i64.bits (a + 16384) ||| BitVec.ofInt IntKind.i64.bits 8192).toNat : Int) = a + 16384 + 8192 from e]; exact .i64 (by omega) g
theorem Arith.tdiv {k : IntKind} {a c : Int} {K : Int → Prop} (h : 0 ≤ a) (g : Arith k (a / c) K) : Arith k (a.tdiv c) K := by rw [Int.tdiv_eq_ediv_of_nonneg h]; exact g
theorem Test.shru8_4 {a c : Int} {A B : Prop} (f : ¬ a / 16 = c → A) (g : a / 16 = c → B) : Test (a.fdiv (2 ^ min (Int.toNat 4) IntKind.u8.bits) != c) A B := by
  rw [shr_u8_4]; exact .ne f g
theorem Test.shreu8_4 {a c : Int} {A B : Prop} (f : a / 16 = c → A) (g : ¬ a / 16 = c → B) : Test (a.fdiv (2 ^ min (Int.toNat 4) IntKind.u8.bits) == c) A B := by
  rw [shr_u8_4]; exact .ie f g
theorem Arith.nsu8_4 {q : IntKind} {a : Int} {K : Int → Prop} (g : Arith q (a / 16) K) : Arith q (a.fdiv (2 ^ min (Int.toNat 4) IntKind.u8.bits)) K := by rw [shr_u8_4]; exact g
theorem Test.shrltu8_4 {a c : Int} {A B : Prop} (f : a / 16 < c → A) (g : ¬ a / 16 < c → B) : Test (decide (a.fdiv (2 ^ min (Int.toNat 4) IntKind.u8.bits) < c)) A B := by
  rw [shr_u8_4]; exact .d f g
theorem Test.shrgeu8_4 {a c : Int} {A B : Prop} (f : a / 16 ≥ c → A) (g : ¬ a / 16 ≥ c → B) : Test (decide (a.fdiv (2 ^ min (Int.toNat 4) IntKind.u8.bits) ≥ c)) A B := by
  rw [shr_u8_4]; exact .d f g
theorem Test.shrleu8_4 {a c : Int} {A B : Prop} (f : a / 16 ≤ c → A) (g : ¬ a / 16 ≤ c → B) : Test (decide (a.fdiv (2 ^ min (Int.toNat 4) IntKind.u8.bits) ≤ c)) A B := by
  rw [shr_u8_4]; exact .d f g
theorem Test.shrgtu8_4 {a c : Int} {A B : Prop} (f : a / 16 > c → A) (g : ¬ a / 16 > c → B) : Test (decide (a.fdiv (2 ^ min (Int.toNat 4) IntKind.u8.bits) > c)) A B := by
  rw [shr_u8_4]; exact .d f g
theorem Test.shru16_4 {a c : Int} {A B : Prop} (f : ¬ a / 16 = c → A) (g : a / 16 = c → B) : Test (a.fdiv (2 ^ min (Int.toNat 4) IntKind.u16.bits) != c) A B := by
  rw [shr_u16_4]; exact .ne f g
theorem Test.shreu16_4 {a c : Int} {A B : Prop} (f : a / 16 = c → A) (g : ¬ a / 16 = c → B) : Test (a.fdiv (2 ^ min (Int.toNat 4) IntKind.u16.bits) == c) A B := by
  rw [shr_u16_4]; exact .ie f g
theorem Arith.nsu16_4 {q : IntKind} {a : Int} {K : Int → Prop} (g : Arith q (a / 16) K) : Arith q (a.fdiv (2 ^ min (Int.toNat 4) IntKind.u16.bits)) K := by rw [shr_u16_4]; exact g
theorem Test.shrltu16_4 {a c : Int} {A B : Prop} (f : a / 16 < c → A) (g : ¬ a / 16 < c → B) : Test (decide (a.fdiv (2 ^ min (Int.toNat 4) IntKind.u16.bits) < c)) A B := by
  rw [shr_u16_4]; exact .d f g
theorem Test.shrgeu16_4 {a c : Int} {A B : Prop} (f : a / 16 ≥ c → A) (g : ¬ a / 16 ≥ c → B) : Test (decide (a.fdiv (2 ^ min (Int.toNat 4) IntKind.u16.bits) ≥ c)) A B := by
  rw [shr_u16_4]; exact .d f g
theorem Test.shrleu16_4 {a c : Int} {A B : Prop} (f : a / 16 ≤ c → A) (g : ¬ a / 16 ≤ c → B) : Test (decide (a.fdiv (2 ^ min (Int.toNat 4) IntKind.u16.bits) ≤ c)) A B := by
  rw [shr_u16_4]; exact .d f g
theorem Test.shrgtu16_4 {a c : Int} {A B : Prop} (f : a / 16 > c → A) (g : ¬ a / 16 > c → B) : Test (decide (a.fdiv (2 ^ min (Int.toNat 4) IntKind.u16.bits) > c)) A B := by
  rw [shr_u16_4]; exact .d f g
theorem Test.shru16_8 {a c : Int} {A B : Prop} (f : ¬ a / 256 = c → A) (g : a / 256 = c → B) : Test (a.fdiv (2 ^ min (Int.toNat 8) IntKind.u16.bits) != c) A B := by
  rw [shr_u16_8]; exact .ne f g
theorem Test.shreu16_8 {a c : Int} {A B : Prop} (f : a / 256 = c → A) (g : ¬ a / 256 = c → B) : Test (a.fdiv (2 ^ min (Int.toNat 8) IntKind.u16.bits) == c) A B := by
  rw [shr_u16_8]; exact .ie f g
theorem Arith.nsu16_8 {q : IntKind} {a : Int} {K : Int → Prop} (g : Arith q (a / 256) K) : Arith q (a.fdiv (2 ^ min (Int.toNat 8) IntKind.u16.bits)) K := by rw [shr_u16_8]; exact g
theorem Test.shrltu16_8 {a c : Int} {A B : Prop} (f : a / 256 < c → A) (g : ¬ a / 256 < c → B) : Test (decide (a.fdiv (2 ^ min (Int.toNat 8) IntKind.u16.bits) < c)) A B := by
  rw [shr_u16_8]; exact .d f g
theorem Test.shrgeu16_8 {a c : Int} {A B : Prop} (f : a / 256 ≥ c → A) (g : ¬ a / 256 ≥ c → B) : Test (decide (a.fdiv (2 ^ min (Int.toNat 8) IntKind.u16.bits) ≥ c)) A B := by
  rw [shr_u16_8]; exact .d f g
theorem Test.shrleu16_8 {a c : Int} {A B : Prop} (f : a / 256 ≤ c → A) (g : ¬ a / 256 ≤ c → B) : Test (decide (a.fdiv (2 ^ min (Int.toNat 8) IntKind.u16.bits) ≤ c)) A B := by
  rw [shr_u16_8]; exact .d f g
theorem Test.shrgtu16_8 {a c : Int} {A B : Prop} (f : a / 256 > c → A) (g : ¬ a / 256 > c → B) : Test (decide (a.fdiv (2 ^ min (Int.toNat 8) IntKind.u16.bits) > c)) A B := by
  rw [shr_u16_8]; exact .d f g
theorem Test.shru32_4 {a c : Int} {A B : Prop} (f : ¬ a / 16 = c → A) (g : a / 16 = c → B) : Test (a.fdiv (2 ^ min (Int.toNat 4) IntKind.u32.bits) != c) A B := by
  rw [shr_u32_4]; exact .ne f g
theorem Test.shreu32_4 {a c : Int} {A B : Prop} (f : a / 16 = c → A) (g : ¬ a / 16 = c → B) : Test (a.fdiv (2 ^ min (Int.toNat 4) IntKind.u32.bits) == c) A B := by
  rw [shr_u32_4]; exact .ie f g
theorem Arith.nsu32_4 {q : IntKind} {a : Int} {K : Int → Prop} (g : Arith q (a / 16) K) : Arith q (a.fdiv (2 ^ min (Int.toNat 4) IntKind.u32.bits)) K := by rw [shr_u32_4]; exact g
theorem Test.shrltu32_4 {a c : Int} {A B : Prop} (f : a / 16 < c → A) (g : ¬ a / 16 < c → B) : Test (decide (a.fdiv (2 ^ min (Int.toNat 4) IntKind.u32.bits) < c)) A B := by
  rw [shr_u32_4]; exact .d f g
theorem Test.shrgeu32_4 {a c : Int} {A B : Prop} (f : a / 16 ≥ c → A) (g : ¬ a / 16 ≥ c → B) : Test (decide (a.fdiv (2 ^ min (Int.toNat 4) IntKind.u32.bits) ≥ c)) A B := by
  rw [shr_u32_4]; exact .d f g
theorem Test.shrleu32_4 {a c : Int} {A B : Prop} (f : a / 16 ≤ c → A) (g : ¬ a / 16 ≤ c → B) : Test (decide (a.fdiv (2 ^ min (Int.toNat 4) IntKind.u32.bits) ≤ c)) A B := by
  rw [shr_u32_4]; exact .d f g
theorem Test.shrgtu32_4 {a c : Int} {A B : Prop} (f : a / 16 > c → A) (g : ¬ a / 16 > c → B) : Test (decide (a.fdiv (2 ^ min (Int.toNat 4) IntKind.u32.bits) > c)) A B := by
  rw [shr_u32_4]; exact .d f g
theorem Test.shru32_8 {a c : Int} {A B : Prop} (f : ¬ a / 256 = c → A) (g : a / 256 = c → B) : Test (a.fdiv (2 ^ min (Int.toNat 8) IntKind.u32.bits) != c) A B := by
  rw [shr_u32_8]; exact .ne f g
theorem Test.shreu32_8 {a c : Int} {A B : Prop} (f : a / 256 = c → A) (g : ¬ a / 256 = c → B) : Test (a.fdiv (2 ^ min (Int.toNat 8) IntKind.u32.bits) == c) A B := by
  rw [shr_u32_8]; exact .ie f g
theorem Arith.nsu32_8 {q : IntKind} {a : Int} {K : Int → Prop} (g : Arith q (a / 256) K) : Arith q (a.fdiv (2 ^ min (Int.toNat 8) IntKind.u32.bits)) K := by rw [shr_u32_8]; exact g
theorem Test.shrltu32_8 {a c : Int} {A B : Prop} (f : a / 256 < c → A) (g : ¬ a / 256 < c → B) : Test (decide (a.fdiv (2 ^ min (Int.toNat 8) IntKind.u32.bits) < c)) A B := by
  rw [shr_u32_8]; exact .d f g
theorem Test.shrgeu32_8 {a c : Int} {A B : Prop} (f : a / 256 ≥ c → A) (g : ¬ a / 256 ≥ c → B) : Test (decide (a.fdiv (2 ^ min (Int.toNat 8) IntKind.u32.bits) ≥ c)) A B := by
  rw [shr_u32_8]; exact .d f g
theorem Test.shrleu32_8 {a c : Int} {A B : Prop} (f : a / 256 ≤ c → A) (g : ¬ a / 256 ≤ c → B) : Test (decide (a.fdiv (2 ^ min (Int.toNat 8) IntKind.u32.bits) ≤ c)) A B := by
  rw [shr_u32_8]; exact .d f g
theorem Test.shrgtu32_8 {a c : Int} {A B : Prop} (f : a / 256 > c → A) (g : ¬ a / 256 > c → B) : Test (decide (a.fdiv (2 ^ min (Int.toNat 8) IntKind.u32.bits) > c)) A B := by
  rw [shr_u32_8]; exact .d f g
theorem Test.shru32_16 {a c : Int} {A B : Prop} (f : ¬ a / 65536 = c → A) (g : a / 65536 = c → B) : Test (a.fdiv (2 ^ min (Int.toNat 16) IntKind.u32.bits) != c) A B := by
  rw [shr_u32_16]; exact .ne f g
theorem Test.shreu32_16 {a c : Int} {A B : Prop} (f : a / 65536 = c → A) (g : ¬ a / 65536 = c → B) : Test (a.fdiv (2 ^ min (Int.toNat 16) IntKind.u32.bits) == c) A B := by
  rw [shr_u32_16]; exact .ie f g
theorem Arith.nsu32_16 {q : IntKind} {a : Int} {K : Int → Prop} (g : Arith q (a / 65536) K) : Arith q (a.fdiv (2 ^ min (Int.toNat 16) IntKind.u32.bits)) K := by rw [shr_u32_16]; exact g
theorem Test.shrltu32_16 {a c : Int} {A B : Prop} (f : a / 65536 < c → A) (g : ¬ a / 65536 < c → B) : Test (decide (a.fdiv (2 ^ min (Int.toNat 16) IntKind.u32.bits) < c)) A B := by
  rw [shr_u32_16]; exact .d f g
theorem Test.shrgeu32_16 {a c : Int} {A B : Prop} (f : a / 65536 ≥ c → A) (g : ¬ a / 65536 ≥ c → B) : Test (decide (a.fdiv (2 ^ min (Int.toNat 16) IntKind.u32.bits) ≥ c)) A B := by
  rw [shr_u32_16]; exact .d f g
theorem Test.shrleu32_16 {a c : Int} {A B : Prop} (f : a / 65536 ≤ c → A) (g : ¬ a / 65536 ≤ c → B) : Test (decide (a.fdiv (2 ^ min (Int.toNat 16) IntKind.u32.bits) ≤ c)) A B := by
  rw [shr_u32_16]; exact .d f g
theorem Test.shrgtu32_16 {a c : Int} {A B : Prop} (f : a / 65536 > c → A) (g : ¬ a / 65536 > c → B) : Test (decide (a.fdiv (2 ^ min (Int.toNat 16) IntKind.u32.bits) > c)) A B := by
  rw [shr_u32_16]; exact .d f g
theorem Test.shru32_24 {a c : Int} {A B : Prop} (f : ¬ a / 16777216 = c → A) (g : a / 16777216 = c → B) : Test (a.fdiv (2 ^ min (Int.toNat 24) IntKind.u32.bits) != c) A B := by
  rw [shr_u32_24]; exact .ne f g
theorem Test.shreu32_24 {a c : Int} {A B : Prop} (f : a / 16777216 = c → A) (g : ¬ a / 16777216 = c → B) : Test (a.fdiv (2 ^ min (Int.toNat 24) IntKind.u32.bits) == c) A B := by
  rw [shr_u32_24]; exact .ie f g
theorem Arith.nsu32_24 {q : IntKind} {a : Int} {K : Int → Prop} (g : Arith q (a / 16777216) K) : Arith q (a.fdiv (2 ^ min (Int.toNat 24) IntKind.u32.bits)) K := by rw [shr_u32_24]; exact g
theorem Test.shrltu32_24 {a c : Int} {A B : Prop} (f : a / 16777216 < c → A) (g : ¬ a / 16777216 < c → B) : Test (decide (a.fdiv (2 ^ min (Int.toNat 24) IntKind.u32.bits) < c)) A B := by
  rw [shr_u32_24]; exact .d f g
theorem Test.shrgeu32_24 {a c : Int} {A B : Prop} (f : a / 16777216 ≥ c → A) (g : ¬ a / 16777216 ≥ c → B) : Test (decide (a.fdiv (2 ^ min (Int.toNat 24) IntKind.u32.bits) ≥ c)) A B := by
  rw [shr_u32_24]; exact .d f g
theorem Test.shrleu32_24 {a c : Int} {A B : Prop} (f : a / 16777216 ≤ c → A) (g : ¬ a / 16777216 ≤ c → B) : Test (decide (a.fdiv (2 ^ min (Int.toNat 24) IntKind.u32.bits) ≤ c)) A B := by
  rw [shr_u32_24]; exact .d f g
theorem Test.shrgtu32_24 {a c : Int} {A B : Prop} (f : a / 16777216 > c → A) (g : ¬ a / 16777216 > c → B) : Test (decide (a.fdiv (2 ^ min (Int.toNat 24) IntKind.u32.bits) > c)) A B := by
  rw [shr_u32_24]; exact .d f g
theorem Test.shru64_4 {a c : Int} {A B : Prop} (f : ¬ a / 16 = c → A) (g : a / 16 = c → B) : Test (a.fdiv (2 ^ min (Int.toNat 4) IntKind.u64.bits) != c) A B := by
  rw [shr_u64_4]; exact .ne f g
theorem Test.shreu64_4 {a c : Int} {A B : Prop} (f : a / 16 = c → A) (g : ¬ a / 16 = c → B) : Test (a.fdiv (2 ^ min (Int.toNat 4) IntKind.u64.bits) == c) A B := by
  rw [shr_u64_4]; exact .ie f g
theorem Arith.nsu64_4 {q : IntKind} {a : Int} {K : Int → Prop} (g : Arith q (a / 16) K) : Arith q (a.fdiv (2 ^ min (Int.toNat 4) IntKind.u64.bits)) K := by rw [shr_u64_4]; exact g
theorem Test.shrltu64_4 {a c : Int} {A B : Prop} (f : a / 16 < c → A) (g : ¬ a / 16 < c → B) : Test (decide (a.fdiv (2 ^ min (Int.toNat 4) IntKind.u64.bits) < c)) A B := by
  rw [shr_u64_4]; exact .d f g
theorem Test.shrgeu64_4 {a c : Int} {A B : Prop} (f : a / 16 ≥ c → A) (g : ¬ a / 16 ≥ c → B) : Test (decide (a.fdiv (2 ^ min (Int.toNat 4) IntKind.u64.bits) ≥ c)) A B := by
  rw [shr_u64_4]; exact .d f g
theorem Test.shrleu64_4 {a c : Int} {A B : Prop} (f : a / 16 ≤ c → A) (g : ¬ a / 16 ≤ c → B) : Test (decide (a.fdiv (2 ^ min (Int.toNat 4) IntKind.u64.bits) ≤ c)) A B := by
  rw [shr_u64_4]; exact .d f g
theorem Test.shrgtu64_4 {a c : Int} {A B : Prop} (f : a / 16 > c → A) (g : ¬ a / 16 > c → B) : Test (decide (a.fdiv (2 ^ min (Int.toNat 4) IntKind.u64.bits) > c)) A B := by
  rw [shr_u64_4]; exact .d f g
theorem Test.shru64_8 {a c : Int} {A B : Prop} (f : ¬ a / 256 = c → A) (g : a / 256 = c → B) : Test (a.fdiv (2 ^ min (Int.toNat 8) IntKind.u64.bits) != c) A B := by
  rw [shr_u64_8]; exact .ne f g
theorem Test.shreu64_8 {a c : Int} {A B : Prop} (f : a / 256 = c → A) (g : ¬ a / 256 = c → B) : Test (a.fdiv (2 ^ min (Int.toNat 8) IntKind.u64.bits) == c) A B := by
  rw [shr_u64_8]; exact .ie f g
theorem Arith.nsu64_8 {q : IntKind} {a : Int} {K : Int → Prop} (g : Arith q (a / 256) K) : Arith q (a.fdiv (2 ^ min (Int.toNat 8) IntKind.u64.bits)) K := by rw [shr_u64_8]; exact g
theorem Test.shrltu64_8 {a c : Int} {A B : Prop} (f : a / 256 < c → A) (g : ¬ a / 256 < c → B) : Test (decide (a.fdiv (2 ^ min (Int.toNat 8) IntKind.u64.bits) < c)) A B := by
  rw [shr_u64_8]; exact .d f g
theorem Test.shrgeu64_8 {a c : Int} {A B : Prop} (f : a / 256 ≥ c → A) (g : ¬ a / 256 ≥ c → B) : Test (decide (a.fdiv (2 ^ min (Int.toNat 8) IntKind.u64.bits) ≥ c)) A B := by
  rw [shr_u64_8]; exact .d f g
theorem Test.shrleu64_8 {a c : Int} {A B : Prop} (f : a / 256 ≤ c → A) (g : ¬ a / 256 ≤ c → B) : Test (decide (a.fdiv (2 ^ min (Int.toNat 8) IntKind.u64.bits) ≤ c)) A B := by
  rw [shr_u64_8]; exact .d f g
theorem Test.shrgtu64_8 {a c : Int} {A B : Prop} (f : a / 256 > c → A) (g : ¬ a / 256 > c → B) : Test (decide (a.fdiv (2 ^ min (Int.toNat 8) IntKind.u64.bits) > c)) A B := by
  rw [shr_u64_8]; exact .d f g
theorem Test.shru64_16 {a c : Int} {A B : Prop} (f : ¬ a / 65536 = c → A) (g : a / 65536 = c → B) : Test (a.fdiv (2 ^ min (Int.toNat 16) IntKind.u64.bits) != c) A B := by
  rw [shr_u64_16]; exact .ne f g
theorem Test.shreu64_16 {a c : Int} {A B : Prop} (f : a / 65536 = c → A) (g : ¬ a / 65536 = c → B) : Test (a.fdiv (2 ^ min (Int.toNat 16) IntKind.u64.bits) == c) A B := by
  rw [shr_u64_16]; exact .ie f g
theorem Arith.nsu64_16 {q : IntKind} {a : Int} {K : Int → Prop} (g : Arith q (a / 65536) K) : Arith q (a.fdiv (2 ^ min (Int.toNat 16) IntKind.u64.bits)) K := by rw [shr_u64_16]; exact g
theorem Test.shrltu64_16 {a c : Int} {A B : Prop} (f : a / 65536 < c → A) (g : ¬ a / 65536 < c → B) : Test (decide (a.fdiv (2 ^ min (Int.toNat 16) IntKind.u64.bits) < c)) A B := by
  rw [shr_u64_16]; exact .d f g
theorem Test.shrgeu64_16 {a c : Int} {A B : Prop} (f : a / 65536 ≥ c → A) (g : ¬ a / 65536 ≥ c → B) : Test (decide (a.fdiv (2 ^ min (Int.toNat 16) IntKind.u64.bits) ≥ c)) A B := by
  rw [shr_u64_16]; exact .d f g
theorem Test.shrleu64_16 {a c : Int} {A B : Prop} (f : a / 65536 ≤ c → A) (g : ¬ a / 65536 ≤ c → B) : Test (decide (a.fdiv (2 ^ min (Int.toNat 16) IntKind.u64.bits) ≤ c)) A B := by
  rw [shr_u64_16]; exact .d f g
theorem Test.shrgtu64_16 {a c : Int} {A B : Prop} (f : a / 65536 > c → A) (g : ¬ a / 65536 > c → B) : Test (decide (a.fdiv (2 ^ min (Int.toNat 16) IntKind.u64.bits) > c)) A B := by
  rw [shr_u64_16]; exact .d f g
theorem Test.shru64_24 {a c : Int} {A B : Prop} (f : ¬ a / 16777216 = c → A) (g : a / 16777216 = c → B) : Test (a.fdiv (2 ^ min (Int.toNat 24) IntKind.u64.bits) != c) A B := by
  rw [shr_u64_24]; exact .ne f g
theorem Test.shreu64_24 {a c : Int} {A B : Prop} (f : a / 16777216 = c → A) (g : ¬ a / 16777216 = c → B) : Test (a.fdiv (2 ^ min (Int.toNat 24) IntKind.u64.bits) == c) A B := by
  rw [shr_u64_24]; exact .ie f g
theorem Arith.nsu64_24 {q : IntKind} {a : Int} {K : Int → Prop} (g : Arith q (a / 16777216) K) : Arith q (a.fdiv (2 ^ min (Int.toNat 24) IntKind.u64.bits)) K := by rw [shr_u64_24]; exact g
theorem Test.shrltu64_24 {a c : Int} {A B : Prop} (f : a / 16777216 < c → A) (g : ¬ a / 16777216 < c → B) : Test (decide (a.fdiv (2 ^ min (Int.toNat 24) IntKind.u64.bits) < c)) A B := by
  rw [shr_u64_24]; exact .d f g
theorem Test.shrgeu64_24 {a c : Int} {A B : Prop} (f : a / 16777216 ≥ c → A) (g : ¬ a / 16777216 ≥ c → B) : Test (decide (a.fdiv (2 ^ min (Int.toNat 24) IntKind.u64.bits) ≥ c)) A B := by
  rw [shr_u64_24]; exact .d f g
theorem Test.shrleu64_24 {a c : Int} {A B : Prop} (f : a / 16777216 ≤ c → A) (g : ¬ a / 16777216 ≤ c → B) : Test (decide (a.fdiv (2 ^ min (Int.toNat 24) IntKind.u64.bits) ≤ c)) A B := by
  rw [shr_u64_24]; exact .d f g
theorem Test.shrgtu64_24 {a c : Int} {A B : Prop} (f : a / 16777216 > c → A) (g : ¬ a / 16777216 > c → B) : Test (decide (a.fdiv (2 ^ min (Int.toNat 24) IntKind.u64.bits) > c)) A B := by
  rw [shr_u64_24]; exact .d f g
theorem Test.shri64_4 {a c : Int} {A B : Prop} (f : ¬ a / 16 = c → A) (g : a / 16 = c → B) : Test (a.fdiv (2 ^ min (Int.toNat 4) IntKind.i64.bits) != c) A B := by
  rw [shr_i64_4]; exact .ne f g
theorem Test.shrei64_4 {a c : Int} {A B : Prop} (f : a / 16 = c → A) (g : ¬ a / 16 = c → B) : Test (a.fdiv (2 ^ min (Int.toNat 4) IntKind.i64.bits) == c) A B := by
  rw [shr_i64_4]; exact .ie f g
theorem Arith.nsi64_4 {q : IntKind} {a : Int} {K : Int → Prop} (g : Arith q (a / 16) K) : Arith q (a.fdiv (2 ^ min (Int.toNat 4) IntKind.i64.bits)) K := by rw [shr_i64_4]; exact g
theorem Test.shrlti64_4 {a c : Int} {A B : Prop} (f : a / 16 < c → A) (g : ¬ a / 16 < c → B) : Test (decide (a.fdiv (2 ^ min (Int.toNat 4) IntKind.i64.bits) < c)) A B := by
  rw [shr_i64_4]; exact .d f g
theorem Test.shrgei64_4 {a c : Int} {A B : Prop} (f : a / 16 ≥ c → A) (g : ¬ a / 16 ≥ c → B) : Test (decide (a.fdiv (2 ^ min (Int.toNat 4) IntKind.i64.bits) ≥ c)) A B := by
  rw [shr_i64_4]; exact .d f g
theorem Test.shrlei64_4 {a c : Int} {A B : Prop} (f : a / 16 ≤ c → A) (g : ¬ a / 16 ≤ c → B) : Test (decide (a.fdiv (2 ^ min (Int.toNat 4) IntKind.i64.bits) ≤ c)) A B := by
  rw [shr_i64_4]; exact .d f g
theorem Test.shrgti64_4 {a c : Int} {A B : Prop} (f : a / 16 > c → A) (g : ¬ a / 16 > c → B) : Test (decide (a.fdiv (2 ^ min (Int.toNat 4) IntKind.i64.bits) > c)) A B := by
  rw [shr_i64_4]; exact .d f g
theorem Test.shri64_8 {a c : Int} {A B : Prop} (f : ¬ a / 256 = c → A) (g : a / 256 = c → B) : Test (a.fdiv (2 ^ min (Int.toNat 8) IntKind.i64.bits) != c) A B := by
  rw [shr_i64_8]; exact .ne f g
theorem Test.shrei64_8 {a c : Int} {A B : Prop} (f : a / 256 = c → A) (g : ¬ a / 256 = c → B) : Test (a.fdiv (2 ^ min (Int.toNat 8) IntKind.i64.bits) == c) A B := by
  rw [shr_i64_8]; exact .ie f g
theorem Arith.nsi64_8 {q : IntKind} {a : Int} {K : Int → Prop} (g : Arith q (a / 256) K) : Arith q (a.fdiv (2 ^ min (Int.toNat 8) IntKind.i64.bits)) K := by rw [shr_i64_8]; exact g
theorem Test.shrlti64_8 {a c : Int} {A B : Prop} (f : a / 256 < c → A) (g : ¬ a / 256 < c → B) : Test (decide (a.fdiv (2 ^ min (Int.toNat 8) IntKind.i64.bits) < c)) A B := by
  rw [shr_i64_8]; exact .d f g
theorem Test.shrgei64_8 {a c : Int} {A B : Prop} (f : a / 256 ≥ c → A) (g : ¬ a / 256 ≥ c → B) : Test (decide (a.fdiv (2 ^ min (Int.toNat 8) IntKind.i64.bits) ≥ c)) A B := by
  rw [shr_i64_8]; exact .d f g
theorem Test.shrlei64_8 {a c : Int} {A B : Prop} (f : a / 256 ≤ c → A) (g : ¬ a / 256 ≤ c → B) : Test (decide (a.fdiv (2 ^ min (Int.toNat 8) IntKind.i64.bits) ≤ c)) A B := by
  rw [shr_i64_8]; exact .d f g
theorem Test.shrgti64_8 {a c : Int} {A B : Prop} (f : a / 256 > c → A) (g : ¬ a / 256 > c → B) : Test (decide (a.fdiv (2 ^ min (Int.toNat 8) IntKind.i64.bits) > c)) A B := by
  rw [shr_i64_8]; exact .d f g
theorem Test.shri64_16 {a c : Int} {A B : Prop} (f : ¬ a / 65536 = c → A) (g : a / 65536 = c → B) : Test (a.fdiv (2 ^ min (Int.toNat 16) IntKind.i64.bits) != c) A B := by
  rw [shr_i64_16]; exact .ne f g
theorem Test.shrei64_16 {a c : Int} {A B : Prop} (f : a / 65536 = c → A) (g : ¬ a / 65536 = c → B) : Test (a.fdiv (2 ^ min (Int.toNat 16) IntKind.i64.bits) == c) A B := by
  rw [shr_i64_16]; exact .ie f g
theorem Arith.nsi64_16 {q : IntKind} {a : Int} {K : Int → Prop} (g : Arith q (a / 65536) K) : Arith q (a.fdiv (2 ^ min (Int.toNat 16) IntKind.i64.bits)) K := by rw [shr_i64_16]; exact g
theorem Test.shrlti64_16 {a c : Int} {A B : Prop} (f : a / 65536 < c → A) (g : ¬ a / 65536 < c → B) : Test (decide (a.fdiv (2 ^ min (Int.toNat 16) IntKind.i64.bits) < c)) A B := by
  rw [shr_i64_16]; exact .d f g
theorem Test.shrgei64_16 {a c : Int} {A B : Prop} (f : a / 65536 ≥ c → A) (g : ¬ a / 65536 ≥ c → B) : Test (decide (a.fdiv (2 ^ min (Int.toNat 16) IntKind.i64.bits) ≥ c)) A B := by
  rw [shr_i64_16]; exact .d f g
theorem Test.shrlei64_16 {a c : Int} {A B : Prop} (f : a / 65536 ≤ c → A) (g : ¬ a / 65536 ≤ c → B) : Test (decide (a.fdiv (2 ^ min (Int.toNat 16) IntKind.i64.bits) ≤ c)) A B := by
  rw [shr_i64_16]; exact .d f g
theorem Test.shrgti64_16 {a c : Int} {A B : Prop} (f : a / 65536 > c → A) (g : ¬ a / 65536 > c → B) : Test (decide (a.fdiv (2 ^ min (Int.toNat 16) IntKind.i64.bits) > c)) A B := by
  rw [shr_i64_16]; exact .d f g
theorem Test.shri64_24 {a c : Int} {A B : Prop} (f : ¬ a / 16777216 = c → A) (g : a / 16777216 = c → B) : Test (a.fdiv (2 ^ min (Int.toNat 24) IntKind.i64.bits) != c) A B := by
  rw [shr_i64_24]; exact .ne f g
theorem Test.shrei64_24 {a c : Int} {A B : Prop} (f : a / 16777216 = c → A) (g : ¬ a / 16777216 = c → B) : Test (a.fdiv (2 ^ min (Int.toNat 24) IntKind.i64.bits) == c) A B := by
  rw [shr_i64_24]; exact .ie f g
theorem Arith.nsi64_24 {q : IntKind} {a : Int} {K : Int → Prop} (g : Arith q (a / 16777216) K) : Arith q (a.fdiv (2 ^ min (Int.toNat 24) IntKind.i64.bits)) K := by rw [shr_i64_24]; exact g
theorem Test.shrlti64_24 {a c : Int} {A B : Prop} (f : a / 16777216 < c → A) (g : ¬ a / 16777216 < c → B) : Test (decide (a.fdiv (2 ^ min (Int.toNat 24) IntKind.i64.bits) < c)) A B := by
  rw [shr_i64_24]; exact .d f g
theorem Test.shrgei64_24 {a c : Int} {A B : Prop} (f : a / 16777216 ≥ c → A) (g : ¬ a / 16777216 ≥ c → B) : Test (decide (a.fdiv (2 ^ min (Int.toNat 24) IntKind.i64.bits) ≥ c)) A B := by
  rw [shr_i64_24]; exact .d f g
theorem Test.shrlei64_24 {a c : Int} {A B : Prop} (f : a / 16777216 ≤ c → A) (g : ¬ a / 16777216 ≤ c → B) : Test (decide (a.fdiv (2 ^ min (Int.toNat 24) IntKind.i64.bits) ≤ c)) A B := by
  rw [shr_i64_24]; exact .d f g
theorem Test.shrgti64_24 {a c : Int} {A B : Prop} (f : a / 16777216 > c → A) (g : ¬ a / 16777216 > c → B) : Test (decide (a.fdiv (2 ^ min (Int.toNat 24) IntKind.i64.bits) > c)) A B := by
  rw [shr_i64_24]; exact .d f g
end Go.Proofs.Ytmdfkggflainbaa.VM
