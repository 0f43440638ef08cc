/- sum's contracts, in the evaluator's form. -/
import Derived.Test.YtnmeeafnobfobaaVmR
import Derived.Test.YtnmeeafnobfobaaSum
namespace Go.Proofs.Ytnmeeafnobfobaa.VM
open Go.RowKit
set_option linter.unusedVariables false
theorem ent_sumOf : Ent Try.prog 45 := ⟨_, Try.func45, by kernel_rfl, by kernel_rfl⟩
theorem ent_sumRight : Ent Try.prog 48 := ⟨_, Try.func48, by kernel_rfl, by kernel_rfl⟩
def strsSV : List ByteArray → List SV
  | [] => []
  | s :: l => .str s :: strsSV l
theorem nth_strsSV : ∀ (l : List ByteArray) (i : Nat), nth (strsSV l) i = (l[i]?).map .str
  | [], i => by cases i <;> rfl
  | s :: l, 0 => rfl
  | s :: l, i + 1 => by simp only [strsSV, nth]; rw [nth_strsSV l i]; simp
theorem strs_rep {ρ : PMap} {w : World} {rw_ sym : Bool} {xs : List ByteArray} {v : Value} (h : Rep ρ [.row rw_ sym (strsSV xs)] w) (hv : (SV.slc 0 0 xs.length (.is xs.length)).Is ρ v) :
    ∃ a, v = .slice a xs.length xs.length ∧ Strs w a xs.length xs := by
  obtain ⟨p, a, cap, hp, rfl, ha, _, hc⟩ := hv
  simp only [Cap.Is] at hc; subst hc
  obtain ⟨q, hq, hr⟩ := h.rows 0 rfl
  rw [hp] at hq; cases hq
  refine ⟨some a, rfl, ?_⟩
  by_cases h0 : xs.length = 0
  · exact .inl (List.length_eq_zero_iff.1 h0)
  · have ha' : a = ⟨p.blk, p.base + 0, none⟩ := ha.resolve_left h0
    refine .inr ⟨p.blk, p.base, ha' ▸ rfl, hr.1, Nat.le_refl _, fun j y hj => ?_⟩
    obtain ⟨v, h1, h2⟩ := hr.2.1 j (.str y) (by show nth (strsSV xs) j = _; rw [nth_strsSV, hj]; rfl)
    rw [h2]; exact congrArg some h1
theorem sumOf_det (rw_ sym : Bool) (xs : List ByteArray) (n : Nat) (l : List SV) (hn : n = xs.length) (hl : l = strsSV xs) (hN : xs.length ≤ 140737488355328) (hlen : (joined xs).size ≤ 140737488355328) :
    Det Try.prog 45 [.o (.slc 0 0 n (.is n))] [.row rw_ sym l] (vI .u16 (65535 - Sp.sumB (joined xs))) [.row rw_ sym l] := by
  subst hn hl
  refine det_of_calls ent_sumOf (fun ρ => rfl) fun ρ w vs hR hv => ?_
  obtain ⟨v, r, rfl, h1, rfl⟩ := hv
  obtain ⟨a, rfl, hS⟩ := strs_rep hR h1
  exact sumOf_any a _ xs w hS hN hlen
theorem sumRight_det (rw_ sym : Bool) (xs : List ByteArray) (n : Nat) (l : List SV) (hn : n = xs.length) (hl : l = strsSV xs) (hN : xs.length ≤ 140737488355328) (hlen : (joined xs).size ≤ 140737488355328) :
    Det Try.prog 48 [.o (.slc 0 0 n (.is n))] [.row rw_ sym l] (vB (Sp.sumB (joined xs) == 65535)) [.row rw_ sym l] := by
  subst hn hl
  refine det_of_calls ent_sumRight (fun ρ => rfl) fun ρ w vs hR hv => ?_
  obtain ⟨v, r, rfl, h1, rfl⟩ := hv
  obtain ⟨a, rfl, hS⟩ := strs_rep hR h1
  exact right_any a _ xs w hS hN hlen
theorem sumOf4 (rw_ sym : Bool) (a b c d : ByteArray) (h : a.size + (b.size + (c.size + d.size)) ≤ 140737488355328) :
    Det Try.prog 45 [.o (.slc 0 0 4 (.is 4))] [.row rw_ sym [.str a, .str b, .str c, .str d]] (vI .u16 (65535 - Sp.sumB (a ++ (b ++ (c ++ d))))) [.row rw_ sym [.str a, .str b, .str c, .str d]] := by
  have := sumOf_det rw_ sym [a, b, c, d] 4 _ rfl rfl (Nat.le_of_ble_eq_true rfl) (by rw [joined_four]; simp only [ByteArray.size_append]; omega)
  rwa [joined_four] at this
theorem sumRight2 (rw_ sym : Bool) (a b : ByteArray) (h : a.size + b.size ≤ 140737488355328) :
    Det Try.prog 48 [.o (.slc 0 0 2 (.is 2))] [.row rw_ sym [.str a, .str b]] (vB (Sp.sumB (a ++ b) == 65535)) [.row rw_ sym [.str a, .str b]] := by
  have := sumRight_det rw_ sym [a, b] 2 _ rfl rfl (Nat.le_of_ble_eq_true rfl) (by rw [joined_two]; simp only [ByteArray.size_append]; omega)
  rwa [joined_two] at this
theorem sumOf2 (rw_ sym : Bool) (a b : ByteArray) (h : a.size + b.size ≤ 140737488355328) :
    Det Try.prog 45 [.o (.slc 0 0 2 (.is 2))] [.row rw_ sym [.str a, .str b]] (vI .u16 (65535 - Sp.sumB (a ++ b))) [.row rw_ sym [.str a, .str b]] := by
  have := sumOf_det rw_ sym [a, b] 2 _ rfl rfl (Nat.le_of_ble_eq_true rfl) (by rw [joined_two]; simp only [ByteArray.size_append]; omega)
  rwa [joined_two] at this
theorem sumOf1 (rw_ sym : Bool) (a : ByteArray) (h : a.size ≤ 140737488355328) :
    Det Try.prog 45 [.o (.slc 0 0 1 (.is 1))] [.row rw_ sym [.str a]] (vI .u16 (65535 - Sp.sumB a)) [.row rw_ sym [.str a]] := by
  have := sumOf_det rw_ sym [a] 1 _ rfl rfl (Nat.le_of_ble_eq_true rfl) (by rw [joined_one]; exact h)
  rwa [joined_one] at this
theorem sumRight1 (rw_ sym : Bool) (a : ByteArray) (h : a.size ≤ 140737488355328) :
    Det Try.prog 48 [.o (.slc 0 0 1 (.is 1))] [.row rw_ sym [.str a]] (vB (Sp.sumB a == 65535)) [.row rw_ sym [.str a]] := by
  have := sumRight_det rw_ sym [a] 1 _ rfl rfl (Nat.le_of_ble_eq_true rfl) (by rw [joined_one]; exact h)
  rwa [joined_one] at this
end Go.Proofs.Ytnmeeafnobfobaa.VM
