/- law 10: the laws over options, as the rows call them. -/
import Derived.Test.YtnmeeafnobfobaaV10s
import Derived.Test.YtnmeeafnobfobaaV10d
import Derived.Test.YtnmeeafnobfobaaVmGl
namespace Go.Proofs.Ytnmeeafnobfobaa.VM
namespace G2
open Go.RowKit
set_option linter.unusedVariables false
theorem opt_rows : ∀ (rows : List (List SV)), (∀ r ∈ rows, okZ [.int .u8, .str] r) → ∃ xs : List (Int × ByteArray), rows.flatten = optSV xs ∧ xs.length = rows.length ∧ ∀ x ∈ xs, (0 ≤ x.1 ∧ x.1 ≤ 255) ∧ x.2.size ≤ 140737488351232
  | [], _ => ⟨[], rfl, rfl, fun x hx => by cases hx⟩
  | r :: rows, h => by
    obtain ⟨k, r', e, hk, s, r'', e', hs, e''⟩ := h r (.head _)
    obtain ⟨xs, h1, h2, h3⟩ := opt_rows rows fun r hr => h r (.tail _ hr)
    subst e''; subst e'; subst e
    refine ⟨(k, s) :: xs, by rw [List.flatten_cons, h1]; rfl, by simp [h2], fun x hx => ?_⟩
    rcases List.mem_cons.1 hx with rfl | hx
    · exact ⟨hk, hs⟩
    · exact h3 x hx
theorem ipopt_row1 (xs : List (Int × ByteArray)) (cp : Cap) (s : ByteArray) (hn : xs.length * 24 ≤ 140737488351232) (hx : ∀ x ∈ xs, (0 ≤ x.1 ∧ x.1 ≤ 255) ∧ x.2.size ≤ 140737488351232) (hs : s.size ≤ 140737488351232) :
    Det Try.prog 12 [.o (.slc 0 0 xs.length cp), .o (.str s)] [.row false true (optSV xs)] (vB true) [.row false true (optSV xs)] :=
  ipopt_all false xs cp s (by omega) (fun x h => (hx x h).1) (fun x h => by have := (hx x h).2; omega) alive10_det
theorem ipopt_row0 (s : ByteArray) (hs : s.size ≤ 140737488351232) : Det Try.prog 12 [.o .nils, .o (.str s)] [] (vB true) [] := ipopt0_all s alive10_det
end G2
end Go.Proofs.Ytnmeeafnobfobaa.VM
