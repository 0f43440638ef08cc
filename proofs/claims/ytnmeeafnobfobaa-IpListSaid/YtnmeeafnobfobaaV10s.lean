/- law 10, IpOptions: all cases. -/
import Derived.Test.YtnmeeafnobfobaaP10o
import Derived.Test.YtnmeeafnobfobaaV10r
namespace Go.Proofs.Ytnmeeafnobfobaa.VM
namespace G2
open Go.RowKit
set_option linter.unusedVariables false
theorem ipopt_all (a : Bool) (xs : List (Int × ByteArray)) (cp : Cap) (s : ByteArray) (hn : xs.length ≤ 1000000000000000000) (hk : ∀ x ∈ xs, 0 ≤ x.1 ∧ x.1 ≤ 255) (hz : ∀ x ∈ xs, x.2.size ≤ 10000000000000000) (al : Det Try.prog 27 [] [] (vB true) []) :
    Det Try.prog 12 [.o (.slc 0 0 xs.length cp), .o (.str s)] [.row a true (optSV xs)] (vB true) [.row a true (optSV xs)] := by
  have M := many_det a xs cp hn hz
  cases hm : optMany xs with
  | true => rw [hm] at M; exact ipopt_many a xs cp s M al
  | false =>
    rw [hm] at M
    have hin := optIn_of hm hk
    by_cases h40 : s.size ≤ 40
    · cases h1 : optP (s.size + 1) s [] with
      | none => exact ipopt_none a xs cp s hin h40 h1 M al
      | some l =>
        have hl := optP_len _ _ _ _ h1
        cases l with
        | nil => exact ipopt_nil a xs cp s hin h40 h1 M al
        | cons y ys => exact ipopt_cons a xs cp s hin y ys (by simp only [List.length_cons, List.length_nil] at hl; omega) h40 h1 M al
    · exact ipopt_far a xs cp s hin (by omega) M al
theorem ipopt0_all (s : ByteArray) (al : Det Try.prog 27 [] [] (vB true) []) : Det Try.prog 12 [.o .nils, .o (.str s)] [] (vB true) [] := by
  by_cases h40 : s.size ≤ 40
  · cases h1 : optP (s.size + 1) s [] with
    | none => exact ipopt0_none s h40 h1 ropts_nil al
    | some l =>
      have hl := optP_len _ _ _ _ h1
      cases l with
      | nil => exact ipopt0_nil s h40 h1 ropts_nil al
      | cons y ys => exact ipopt0_cons s y ys (by simp only [List.length_cons, List.length_nil] at hl; omega) h40 h1 ropts_nil al
  · exact ipopt0_far s (by omega) ropts_nil al
end G2
end Go.Proofs.Ytnmeeafnobfobaa.VM
