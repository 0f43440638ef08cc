/- Law 7, in plain Lean: the document's reading of an address's text. -/
import Derived.Test.YtnikpanebkknfaaDoorP07
namespace Go.Proofs.YtnikpanebkknfaaDoor.VM
namespace G4
open Go.RowKit
set_option linter.unusedVariables false
set_option linter.unusedSimpArgs false
set_option maxRecDepth 100000
/-- The digit that a byte is, if it is one. -/
def dgR (c : UInt8) : Option Nat := if 48 ≤ c.toNat ∧ c.toNat ≤ 57 then some (c.toNat - 48) else if 97 ≤ c.toNat ∧ c.toNat ≤ 102 then some (c.toNat - 87) else none
/-- One byte more. -/
def stR (m : Nat) (c : UInt8) : Nat := match dgR c with
  | some k => (m * 16 + k) % 281474976710656
  | none => m
def twoR (c : Nat) : List UInt8 → Bool
  | [x, y] => decide (dgR x = some (c / 16)) && decide (dgR y = some (c % 16))
  | _ => false
theorem two_r : ∀ c : _root_.Fin 256, twoR c.val (hxL c.val) = true := by decide +kernel
theorem fold_hx {c : Nat} (h : c < 256) (n : Nat) (hb : n * 256 + c < 281474976710656) : (hxL c).foldl stR n = n * 256 + c := by
  have e := two_r ⟨c, h⟩
  simp only [] at e
  obtain ⟨x, y, hl, -⟩ := hxL_two h
  rw [hl] at e ⊢
  simp only [twoR, Bool.and_eq_true, decide_eq_true_eq] at e
  simp only [List.foldl_cons, List.foldl_nil, stR, e.1, e.2]
  omega
theorem fold_col (n : Nat) : [(58 : UInt8)].foldl stR n = n := rfl
/-- The document reads an address's text as that address. -/
theorem macB_readR {m : Nat} (h : m < 281474976710656) : (macB m).data.toList.foldl stR 0 = m := by
  rw [macB_list]
  simp only [List.foldl_append, fold_col]
  rw [fold_hx (c := m / 1099511627776 % 256) (by omega) _ (by omega), fold_hx (c := m / 4294967296 % 256) (by omega) _ (by omega), fold_hx (c := m / 16777216 % 256) (by omega) _ (by omega), fold_hx (c := m / 65536 % 256) (by omega) _ (by omega), fold_hx (c := m / 256 % 256) (by omega) _ (by omega), fold_hx (c := m % 256) (by omega) _ (by omega)]
  omega
end G4
end Go.Proofs.YtnikpanebkknfaaDoor.VM
