/- What the rows' listed variables give, for law 07. -/
import Derived.Test.YtnikpanebkknfaaDoorCrd
namespace Go.Proofs.YtnikpanebkknfaaDoor
open Go.ChangeShapes Go.WideShapes Go.ChangeAt Go.RowKit
set_option linter.unusedVariables false
set_option maxRecDepth 100000
theorem gTz : Tryd.prog.globalNamed "math/bits.deBruijn64tab" = some 7 := by kernel_rfl
def tzL : List Int := [0, 1, 56, 2, 57, 49, 28, 3, 61, 58, 42, 50, 38, 29, 17, 4, 62, 47, 59, 36, 45, 43, 51, 22, 53, 39, 33, 30, 24, 18, 12, 5, 63, 55, 48, 27, 60, 41, 37, 16, 46, 35, 44, 21, 52, 32, 23, 11, 54, 26, 40, 15, 34, 20, 31, 10, 25, 14, 19, 9, 13, 8, 7, 6]
theorem tz_is {W : World} (h : laidMet Tryd.prog laidL W) : Lib.TabIs Tryd.prog W "math/bits.deBruijn64tab" .u8 tzL := by
  have h3 := h.tail
  have e : (Rows.laid_math_bits_deBruijn64tab : DataW Unit) = Lib.tabData .u8 tzL := by kernel_rfl
  rw [e] at h3
  exact Lib.tabIs_of_head (t := 164) (e := 5) (n := 64) gTz (by kernel_rfl) Tryd.underlying164 Tryd.underlying5 (by kernel_rfl) (by kernel_rfl) h3
theorem tz_cell {W : World} (hL : laidMetH Tryd.prog laidL W) : W.cell? ⟨7, 15, none⟩ = some (.int .u8 4) :=
  (tz_is (laid_plain W hL)).cell gTz 15 (by decide)
theorem tabs8_of {W : World} (hL : laidMetH Tryd.prog laidL W) (hsh : W.ShapedOpen Tryd.prog) : VM.Tabs ⟨W, 8⟩ :=
  let t := tabs_of hL hsh
  ⟨by show 4 ≤ 8; decide, t.itoa, t.maxlen, t.esyn, t.eran⟩
theorem low8_of {W : World} (hL : laidMetH Tryd.prog laidL W) : VM.Low ⟨W, 8⟩ (fun _ => none) [] W := by
  have hlt : 7 < W.heap.size := Lib.lt_of_cell (tz_cell hL)
  exact ⟨by show 8 ≤ W.heap.size; omega, fun _ _ => rfl, fun k ⟨b, p, hb, _⟩ => by cases b <;> cases hb⟩
end Go.Proofs.YtnikpanebkknfaaDoor
