/- law 10, plain: how long lists of options are. -/
import Derived.Test.YtnmeeafnobfobaaV10o
import Derived.Test.YtnmeeafnobfobaaV10p
namespace Go.Proofs.Ytnmeeafnobfobaa.VM
namespace G2
open Go.RowKit
set_option linter.unusedVariables false
theorem optP_len : ∀ (f : Nat) (u : ByteArray) (acc l : List (Int × ByteArray)), optP f u acc = some l → l.length ≤ acc.length + u.size
  | 0, u, acc, l, h => by rw [optP] at h; cases h; omega
  | f + 1, u, acc, l, h => by
    have hb1 := bAt_bd u (Int.toNat 1)
    rw [optP] at h
    split at h
    · cases h; omega
    split at h
    · cases h; omega
    split at h
    · have := optP_len f _ _ _ h
      rw [List.length_append, ByteArray.size_extract, List.length_singleton] at this; omega
    split at h
    · cases h
    split at h
    · cases h
    split at h
    · cases h
    · have := optP_len f _ _ _ h
      rw [List.length_append, ByteArray.size_extract, List.length_singleton] at this; omega
theorem optL_len (x : Int × ByteArray) : (optL x).length ≤ 2 + x.2.size := by
  unfold optL
  split
  · simp only [List.length_cons]; rw [Sp.size_toList]; omega
  · simp only [List.length_cons, List.length_nil]; omega
theorem optsL_len : ∀ (l : List (Int × ByteArray)), ((optsL l).length : Int) ≤ optN l l.length
  | [] => by simp [optsL, optN]
  | x :: l => by
    have h := optsL_len l
    have h2 := optL_len x
    rw [show optsL (x :: l) = optL x ++ optsL l from List.flatMap_cons, List.length_append, List.length_cons, show optN (x :: l) (l.length + 1) = 2 + x.2.size + optN l l.length from rfl]
    omega
theorem optN_mem : ∀ (l : List (Int × ByteArray)) (x : Int × ByteArray), x ∈ l → (x.2.size : Int) ≤ optN l l.length
  | y :: l, x, h => by
    have h0 : 0 ≤ optN l l.length := Int.le_trans (by omega) (optsL_len l)
    rw [List.length_cons, show optN (y :: l) (l.length + 1) = 2 + y.2.size + optN l l.length from rfl]
    rcases List.mem_cons.1 h with rfl | h
    · omega
    · have := optN_mem l x h; omega
theorem optIn_of {l : List (Int × ByteArray)} (h : optMany l = false) (hk : ∀ x ∈ l, 0 ≤ x.1 ∧ x.1 ≤ 255) : optIn l := by
  unfold optMany at h
  simp only [Bool.or_eq_false_iff, decide_eq_false_iff_not] at h
  obtain ⟨h1, h2⟩ := h
  rw [show min l.length 100 = l.length by omega] at h2
  have h3 := optsL_len l
  exact ⟨by omega, hk, fun x hx => by have := optN_mem l x hx; omega, by omega⟩
end G2
end Go.Proofs.Ytnmeeafnobfobaa.VM
