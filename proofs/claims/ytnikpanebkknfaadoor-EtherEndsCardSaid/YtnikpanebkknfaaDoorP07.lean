/- Law 7, in plain Lean: an address's text is read as it was written. -/
import Derived.Test.YtnikpanebkknfaaDoorV07b
import Derived.Test.YtnikpanebkknfaaDoorV07d
namespace Go.Proofs.YtnikpanebkknfaaDoor.VM
namespace G4
open Go.RowKit
set_option linter.unusedVariables false
set_option linter.unusedSimpArgs false
set_option maxRecDepth 100000
/-- The two digits of a byte, as a list. -/
def hxL (c : Nat) : List UInt8 := (hx c).data.toList
def twoOk (c : Nat) : List UInt8 → Bool
  | [x, y] => decide (digU x.toNat = ((c / 16 : Nat) : Int)) && decide (digU y.toNat = ((c % 16 : Nat) : Int)) && x != 58 && y != 58
  | _ => false
theorem two_ok : ∀ c : _root_.Fin 256, twoOk c.val (hxL c.val) = true := by decide +kernel
theorem hxL_two {c : Nat} (h : c < 256) : ∃ x y, hxL c = [x, y] ∧ digU x.toNat = ((c / 16 : Nat) : Int) ∧ digU y.toNat = ((c % 16 : Nat) : Int) ∧ x ≠ 58 ∧ y ≠ 58 := by
  have e := two_ok ⟨c, h⟩
  simp only [] at e
  match hl : hxL c with
  | [x, y] =>
    rw [hl] at e
    simp only [twoOk, Bool.and_eq_true, decide_eq_true_eq, bne_iff_ne, ne_eq] at e
    exact ⟨x, y, rfl, e.1.1.1, e.1.1.2, e.1.2, e.2⟩
  | [] => rw [hl] at e; simp [twoOk] at e
  | [_] => rw [hl] at e; simp [twoOk] at e
  | _ :: _ :: _ :: _ => rw [hl] at e; simp [twoOk] at e
theorem pu16L_hx {c : Nat} (h : c < 256) {n : Int} (hn : 0 ≤ n) (hb : n * 256 + c ≤ 281474976710655) (l : List UInt8) : pu16L n (hxL c ++ l) = pu16L (n * 256 + c) l := by
  obtain ⟨x, y, e, hx, hy, -, -⟩ := hxL_two h
  rw [e]
  simp only [List.cons_append, List.nil_append, pu16L]
  rw [hx, hy, if_neg (by omega), if_neg (by omega), if_neg (by omega), if_neg (by omega)]
  congr 1; omega
theorem hxL_filter {c : Nat} (h : c < 256) : (hxL c).filter (· != 58) = hxL c := by
  obtain ⟨x, y, e, -, -, hx, hy⟩ := hxL_two h
  rw [e]; simp [hx, hy]
/-- The digits of an address. -/
def macL (m : Nat) : List UInt8 := hxL (m / 1099511627776 % 256) ++ (hxL (m / 4294967296 % 256) ++ (hxL (m / 16777216 % 256) ++ (hxL (m / 65536 % 256) ++ (hxL (m / 256 % 256) ++ (hxL (m % 256) ++ [])))))
theorem macL_read {m : Nat} (h : m ≤ 281474976710655) : pu16L 0 (macL m) = ((m : Int), 0) := by
  unfold macL
  rw [pu16L_hx (by omega) (by omega) (by omega), pu16L_hx (by omega) (by omega) (by omega), pu16L_hx (by omega) (by omega) (by omega), pu16L_hx (by omega) (by omega) (by omega), pu16L_hx (by omega) (by omega) (by omega), pu16L_hx (by omega) (by omega) (by omega), pu16L]
  congr 1; omega
theorem macB_list (m : Nat) : (macB m).data.toList = hxL (m / 1099511627776 % 256) ++ [58] ++ hxL (m / 4294967296 % 256) ++ [58] ++ hxL (m / 16777216 % 256) ++ [58] ++ hxL (m / 65536 % 256) ++ [58] ++ hxL (m / 256 % 256) ++ [58] ++ hxL (m % 256) := by
  unfold macB; rw [join6]
  simp only [ByteArray.data_append, Array.toList_append]; rfl
/-- An address's text without its colons is its digits. -/
theorem macB_filter (m : Nat) : (macB m).data.toList.filter (· != 58) = macL m := by
  rw [macB_list]
  simp only [List.filter_append, hxL_filter (Nat.mod_lt _ (show 256 > 0 by omega))]
  simp [macL]
theorem macL_inj {a b : Nat} (ha : a ≤ 281474976710655) (hb : b ≤ 281474976710655) (h : macB a = macB b) : a = b := by
  have e := macB_filter a
  rw [h, macB_filter b] at e
  have ea := macL_read ha; have eb := macL_read hb
  rw [← e, eb] at ea
  have := congrArg Prod.fst ea; simp only [] at this; omega
end G4
end Go.Proofs.YtnikpanebkknfaaDoor.VM
