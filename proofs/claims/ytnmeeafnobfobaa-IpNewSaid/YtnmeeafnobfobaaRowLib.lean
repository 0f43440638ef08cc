/- What a slice of texts that came in reads as. -/
import Derived.Test.YtnmeeafnobfobaaSum
import Derived.ProofKit
import Derived.OpenShut
import Derived.SliceStrings
namespace Go.Proofs.Ytnmeeafnobfobaa
open Go.ChangeShapes Go.WideShapes Go.ChangeAt Go.RowKit
set_option linter.unusedVariables false

theorem strs_of_trod {H : Type} {enc : TypeId × Value → H} {P : Program} {T E : TypeId} (hT : P.underlying T = some (.slice E)) (hE : P.underlying E = some .string) (hc : P.cellsOf E = 1)
    {W : World} {sa : Option Addr} {len cap : Nat} {d : DataW H} {p : List MemPlace} (h : DataW.Trod enc P W 0 (fun _ => true) true T (.slice sa len cap) d p) :
    ∃ xs, len = xs.length ∧ (Strs W sa cap xs ∧ xs.length ≤ maxLen ∧ ∀ x ∈ xs, x.size ≤ maxLen) := by
  obtain ⟨fuel, hf⟩ := h
  rcases open_strings hT hE hc hf with ⟨hcs, _⟩ | ⟨x, l, c, ss, hcs, _, hl, hm, hz, _, hcell, hws⟩
  · simp [Value.cells] at hcs
    obtain ⟨rfl, rfl, rfl⟩ := hcs
    exact ⟨[], rfl, .inl rfl, by simp, by simp⟩
  · simp [Value.cells] at hcs
    obtain ⟨rfl, rfl, rfl⟩ := hcs
    have hz' : ss.length = cap := by simpa using hz
    refine ⟨ss.take len, by rw [List.length_take]; omega, ?_, by rw [List.length_take]; omega, fun y hy => hws y (List.mem_of_mem_take hy)⟩
    by_cases h0 : len = 0
    · subst h0; exact .inl (by simp)
    · obtain ⟨b, o, sp⟩ := x
      have h1 := hcell 0 (by omega)
      have hsp : sp = none := by simpa [Addr.add] using World.cell?_spot h1
      subst hsp
      refine .inr ⟨b, o, rfl, ?_, by rw [List.length_take]; omega, fun j y hj => ?_⟩
      · rw [Sp.addr_add] at h1
        rcases Nat.lt_or_ge b W.heap.size with h' | h'
        · exact h'
        · simp [World.cell?, Array.getElem?_eq_none h'] at h1
      · have hjl : j < len := by
          have := (List.getElem?_eq_some_iff.1 hj).1
          rw [List.length_take] at this; omega
        rw [List.getElem?_take_of_lt hjl] at hj
        have h2 := hcell j (by omega)
        rw [Sp.addr_add] at h2
        rw [h2, List.getD_eq_getElem?_getD, hj]; rfl
end Go.Proofs.Ytnmeeafnobfobaa
