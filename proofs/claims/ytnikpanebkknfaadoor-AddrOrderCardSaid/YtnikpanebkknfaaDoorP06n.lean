/- Law 6, in plain Lean: what the laws say of prefixes and of pairs. -/
import Derived.Test.YtnikpanebkknfaaDoorV06d
namespace Go.Proofs.YtnikpanebkknfaaDoor.VM
namespace G4
open Go.RowKit
set_option linter.unusedVariables false
set_option linter.unusedSimpArgs false
set_option maxRecDepth 100000
theorem clamp_of {x : Int} (h : 0 ≤ x ∧ x ≤ 32) : clampN x = x.toNat := by unfold clampN; omega
theorem in_iff (p q x : Int) : inP p q x = true ↔ p / 2 ^ (32 - clampN x) = q / 2 ^ (32 - clampN x) := by unfold inP; exact decide_eq_true_iff
theorem div_more {p q : Int} {k j : Nat} (hj : k ≤ j) (h : p / 2 ^ k = q / 2 ^ k) : p / 2 ^ j = q / 2 ^ j := by
  obtain ⟨m, rfl⟩ : ∃ m, j = k + m := ⟨j - k, by omega⟩
  rw [Int.pow_add, ← Int.ediv_ediv_of_nonneg (Int.le_of_lt (pow_pos k)), ← Int.ediv_ediv_of_nonneg (Int.le_of_lt (pow_pos k)), h]
theorem in_less {p q x y : Int} (h : 0 ≤ x ∧ x ≤ y ∧ y ≤ 32) (hi : inP p q y = true) : inP p q x = true := by
  rw [in_iff] at hi ⊢
  rw [clamp_of (by omega)] at hi ⊢
  exact div_more (by omega) hi
theorem in_self (p x : Int) : inP p p x = true := by rw [in_iff]
theorem in_zero {p q : Int} (h1 : 0 ≤ p ∧ p ≤ 4294967295) (h2 : 0 ≤ q ∧ q ≤ 4294967295) : inP p q 0 = true := by
  rw [in_iff, clamp_of (by omega)]
  show p / 4294967296 = q / 4294967296
  omega
theorem in_all (p q : Int) : inP p q 32 = (p == q) := by
  rw [Bool.eq_iff_iff, in_iff, clamp_of (by omega), beq_iff_eq]
  show p / 1 = q / 1 ↔ p = q
  omega
theorem in_meet {p a b x y : Int} (h : 0 ≤ x ∧ x ≤ y ∧ y ≤ 32) (h1 : inP p a x = true) (h2 : inP p b y = true) : inP a b x = true := by
  have h2 := in_less h h2
  rw [in_iff] at h1 h2 ⊢
  rw [← h1, h2]
theorem in_same {p a b x : Int} (h : inP a b x = true) : inP p a x = inP p b x := by
  rw [in_iff] at h
  rw [Bool.eq_iff_iff, in_iff, in_iff, h]
theorem mask_and : ∀ (x y : _root_.Fin 33), x.val ≤ y.val → ((BitVec.ofInt IntKind.u32.bits (maskN y.val) &&& BitVec.ofInt IntKind.u32.bits (maskN x.val)).toNat : Int) = maskN x.val := by decide +kernel
theorem mask_inj : ∀ (x y : _root_.Fin 33), (maskN x.val == maskN y.val) = decide (x.val = y.val) := by decide +kernel
theorem mask_and' {x y : Int} (h : 0 ≤ x ∧ x ≤ y ∧ y ≤ 32) : ((BitVec.ofInt IntKind.u32.bits (maskN (clampN y)) &&& BitVec.ofInt IntKind.u32.bits (maskN (clampN x))).toNat : Int) = maskN (clampN x) := by
  rw [clamp_of (by omega), clamp_of (by omega)]
  exact mask_and ⟨x.toNat, by omega⟩ ⟨y.toNat, by omega⟩ (by show x.toNat ≤ y.toNat; omega)
theorem mask_inj' {x y : Int} (hx : 0 ≤ x ∧ x ≤ 32) (hy : 0 ≤ y ∧ y ≤ 32) : ((maskN (clampN x) == maskN (clampN y)) == (x == y)) = true := by
  rw [clamp_of hx, clamp_of hy, mask_inj ⟨x.toNat, by omega⟩ ⟨y.toNat, by omega⟩, beq_iff_eq, Bool.eq_iff_iff, decide_eq_true_iff, beq_iff_eq]
  show x.toNat = y.toNat ↔ x = y
  omega
theorem not_mask : ∀ x : _root_.Fin 33, ((BitVec.ofInt IntKind.u32.bits ((BitVec.ofInt IntKind.u32.bits (if IntKind.u32.signed = true then -1 else IntKind.u32.max) ^^^ BitVec.ofInt IntKind.u32.bits (maskN x.val)).toNat : Int) &&& BitVec.ofInt IntKind.u32.bits (IntKind.u32.wrap (((BitVec.ofInt IntKind.u32.bits (if IntKind.u32.signed = true then -1 else IntKind.u32.max) ^^^ BitVec.ofInt IntKind.u32.bits (maskN x.val)).toNat : Int) + 1))).toNat : Int) = 0 := by decide +kernel
theorem not_mask' {x : Int} (h : 0 ≤ x ∧ x ≤ 32) : ((BitVec.ofInt IntKind.u32.bits ((BitVec.ofInt IntKind.u32.bits (if IntKind.u32.signed = true then -1 else IntKind.u32.max) ^^^ BitVec.ofInt IntKind.u32.bits (maskN (clampN x))).toNat : Int) &&& BitVec.ofInt IntKind.u32.bits (IntKind.u32.wrap (((BitVec.ofInt IntKind.u32.bits (if IntKind.u32.signed = true then -1 else IntKind.u32.max) ^^^ BitVec.ofInt IntKind.u32.bits (maskN (clampN x))).toNat : Int) + 1))).toNat : Int) = 0 := by
  rw [clamp_of h]; exact not_mask ⟨x.toNat, by omega⟩
/-! pairs -/
theorem turn_same (a b c d : Int) : negB true (negB false (c == a && (d == b && (a == c && (b == d && true)))) == negB false (a == c && (b == d && true))) = false := by
  by_cases h1 : a = c
  · by_cases h2 : b = d
    · subst h1; subst h2; simp [negB]
    · have h3 : ¬ d = b := fun e => h2 e.symm
      subst h1; simp [negB, h2, h3]
  · have h3 : (c == a) = false := by simpa using fun e : c = a => h1 e.symm
    have h4 : (a == c) = false := by simpa using h1
    rw [h3, h4]; rfl
theorem bytes_same {a b c d p q r s : Int} (h : okP a b c d) (k : okP p q r s) : negB true (((pairB a b c d).toList == (pairB p q r s).toList) == negB false (a == p && (b == q && (c == r && (d == s && true))))) = false := by
  have e : ((pairB a b c d).toList == (pairB p q r s).toList) = (a == p && (b == q && (c == r && (d == s && true)))) := by
    have hb : ∀ x y : ByteArray, (x.toList == y.toList) = decide (x = y) := fun x y => by
      by_cases h : x = y
      · subst h; simp
      · have : (x.toList == y.toList) = false := by rw [Bool.eq_false_iff]; exact fun e => h (eq_of_bytes e)
        rw [this]; simp [h]
    rw [hb, Bool.eq_iff_iff, decide_eq_true_iff, pair_inj h.1 h.2.1 h.2.2.1 h.2.2.2 k.1 k.2.1 k.2.2.1 k.2.2.2]
    simp
  rw [e]; simp [negB]
theorem pair_data (a b c d : Int) : (pairB a b c d).data.toList = [UInt8.ofNat (a / 16777216 % 256).toNat, UInt8.ofNat (a / 65536 % 256).toNat, UInt8.ofNat (a / 256 % 256).toNat, UInt8.ofNat (a % 256).toNat, UInt8.ofNat (c / 16777216 % 256).toNat, UInt8.ofNat (c / 65536 % 256).toNat, UInt8.ofNat (c / 256 % 256).toNat, UInt8.ofNat (c % 256).toNat, UInt8.ofNat (b / 256 % 256).toNat, UInt8.ofNat (b % 256).toNat, UInt8.ofNat (d / 256 % 256).toNat, UInt8.ofNat (d % 256).toNat] := by
  simp only [pairB, ByteArray.data_append, Array.toList_append, of4_data, of2_data]; rfl
theorem turn_bytes (a b c d : Int) : ((pairB c d a b).toList == ((pairB a b c d).extract (Int.toNat 4) (Int.toNat 8) ++ (pairB a b c d).extract (Int.toNat 0) (Int.toNat 4) ++ (pairB a b c d).extract (Int.toNat 10) (((pairB a b c d).size : Int)).toNat ++ (pairB a b c d).extract (Int.toNat 8) (Int.toNat 10)).toList) = true := by
  have e : pairB c d a b = (pairB a b c d).extract (Int.toNat 4) (Int.toNat 8) ++ (pairB a b c d).extract (Int.toNat 0) (Int.toNat 4) ++ (pairB a b c d).extract (Int.toNat 10) (((pairB a b c d).size : Int)).toNat ++ (pairB a b c d).extract (Int.toNat 8) (Int.toNat 10) := by
    rw [pair_size]
    apply ByteArray.ext; apply Array.ext'
    simp only [ByteArray.data_append, ByteArray.data_extract, Array.toList_append, Array.toList_extract]
    rw [pair_data c d a b, pair_data a b c d]
    rfl
  rw [← e]; simp
theorem cmp_chain {x y z : ByteArray} (h1 : ¬ cmpB x y > 0) (h2 : ¬ cmpB y z > 0) : cmpB x z ≤ 0 := cmpB_trans (y := y) (by omega) (by omega)
theorem cmp_zero {a b c d p q r s : Int} (h : okP a b c d) (k : okP p q r s) : ((cmpB (pairB a b c d) (pairB p q r s) == 0) == negB false (a == p && (b == q && (c == r && (d == s && true))))) = true := by
  have e : (cmpB (pairB a b c d) (pairB p q r s) == 0) = (a == p && (b == q && (c == r && (d == s && true)))) := by
    rw [Bool.eq_iff_iff, beq_iff_eq, cmpB_eq, pair_inj h.1 h.2.1 h.2.2.1 h.2.2.2 k.1 k.2.1 k.2.2.1 k.2.2.2]
    simp
  rw [e]; simp [negB]
end G4
end Go.Proofs.YtnikpanebkknfaaDoor.VM
