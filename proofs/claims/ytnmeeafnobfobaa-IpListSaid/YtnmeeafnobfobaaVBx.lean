/- sum's contracts as a base of the evaluator's runs on plain values. -/
import Derived.Test.YtnmeeafnobfobaaVBs
import Derived.Test.YtnmeeafnobfobaaVmX
namespace Go.Proofs.Ytnmeeafnobfobaa.VM
open Go.RowKit
set_option linter.unusedVariables false
def textsOf : List SV → Option (List ByteArray)
  | [] => some []
  | .str s :: l => match textsOf l with
    | some r => some (s :: r)
    | none => none
  | _ => none
theorem textsOf_eq : ∀ {l : List SV} {xs : List ByteArray}, textsOf l = some xs → l = strsSV xs
  | [], xs, h => by cases h; rfl
  | .str s :: l, xs, h => by
    simp only [textsOf] at h
    split at h
    · rename_i r hr; cases h; rw [textsOf_eq hr]; rfl
    · cases h
  | .int _ _ :: l, xs, h => by cases h
  | .bool _ :: l, xs, h => by cases h
  | .ptr _ _ :: l, xs, h => by cases h
  | .nilp :: l, xs, h => by cases h
  | .slc _ _ _ _ :: l, xs, h => by cases h
  | .nils :: l, xs, h => by cases h
  | .fn _ _ :: l, xs, h => by cases h
  | .nilfn :: l, xs, h => by cases h
/-- sum.Of and sum.Right, of texts in a row of their own. -/
def base2 : CallE := fun f args M => match args, M with
  | [.o (.slc 0 0 n (.is m))], [.row rw_ sym l] => match textsOf l with
    | some xs => match decide (n = xs.length) && (decide (m = xs.length) && (decide (xs.length ≤ 140737488355328) && decide ((joined xs).size ≤ 140737488355328))) with
      | true => match Nat.beq f 45 with
        | true => some (vI .u16 (65535 - Sp.sumB (joined xs)), [.row rw_ sym l])
        | false => match Nat.beq f 48 with
          | true => some (vB (Sp.sumB (joined xs) == 65535), [.row rw_ sym l])
          | false => none
      | false => none
    | none => none
  | _, _ => none
theorem base2_ok : CallOk Try.prog base2 := fun f args M v M' h => by
  unfold base2 at h
  split at h
  · rename_i n m rw_ sym l
    split at h
    · rename_i xs hx
      split at h
      · rename_i hd
        simp only [Bool.and_eq_true, decide_eq_true_eq] at hd
        obtain ⟨h1, h2, h3, h4⟩ := hd
        subst h2
        split at h
        · rename_i hf
          cases h
          rw [Nat.eq_of_beq_eq_true hf]
          have := sumOf_det rw_ sym xs n l h1 (textsOf_eq hx) h3 h4
          rw [h1] at this ⊢
          exact this
        · split at h
          · rename_i hf
            cases h
            rw [Nat.eq_of_beq_eq_true hf]
            have := sumRight_det rw_ sym xs n l h1 (textsOf_eq hx) h3 h4
            rw [h1] at this ⊢
            exact this
          · cases h
      · cases h
    · cases h
  · cases h
end Go.Proofs.Ytnmeeafnobfobaa.VM
