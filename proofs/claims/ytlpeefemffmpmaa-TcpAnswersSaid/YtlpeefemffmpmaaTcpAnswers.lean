/- Law TcpAnswers of stevedorelaw16: for every input the law returns true, and each argument reads as it did. -/
import Derived.Test.YtlpeefemffmpmaaRows
import Derived.WalkKit
import Derived.ProofKit
import Derived.OpenShut
import Derived.ShutString
import Derived.ChangeOld
import Derived.Below
import Derived.SliceStrings
import Derived.Test.YtlpeefemffmpmaaRowLib
import Derived.Test.YtlpeefemffmpmaaVmFl
import Derived.Test.YtlpeefemffmpmaaV16e
namespace Go.Proofs.Ytlpeefemffmpmaa.tcpAnswersDone
open Go.ChangeShapes Go.WideShapes Go.ChangeAt Go.RowKit
open Go.ChangeMaps (open_string shut_string)
set_option linter.unusedVariables false

theorem own : ownKnob Try.prog.godebug = none := by kernel_rfl
theorem laidOut : laidOutB Try.prog = true := by kernel_rfl

set_option maxRecDepth 100000 in
theorem lifted (os : Os) (started : os.Started) (H : Type) (enc : TypeId × Value → H) :
    ReturnsInHanded {} Try.checked os 14 .any (Rows.tcpAnswersSpec.pre6 enc Try.prog Try.f14 Rows.tcpAnswersRow.domain false) (Rows.tcpAnswersSpec.post enc Try.prog Try.f14 false true false false) := by
  refine returnsInHanded_of_change (C := Try.checked) own started (by kernel_rfl) Try.func14
    (ChangeSpec.witness6 (enc := enc) (C := Try.checked) false ⟨#[], #[.agg #[.int .u32 0, .int .u16 0, .int .u32 0, .int .u16 0, .int .u32 0, .int .u32 0, .int .u8 0, .int .u16 0, .int .u16 0, .int .u16 0, .int .i64 0, .string ⟨#[]⟩]], []⟩ 8 (by kernel_rfl) (by kernel_rfl) (by kernel_rfl) (by kernel_rfl)) ?_
  intro W base args ds gs before hval0 hW hcnd _
  have hval : ∀ (j : Nat) t v, Try.f14.params[j]? = some t → args[j]? = some v → Value.okWide Try.prog W .any base t v := hval0
  have hW' := hW
  obtain ⟨p, q, hA0, hV, rfl, hfz, hnd⟩ := hW
  have hA : DataW.TrodAll enc Try.prog W 0 (fun _ => true) true Try.f14.params.toList args.toList ds p := hA0
  rw [Try.params14] at hA hval
  obtain ⟨v0, vs0, d0, ds0, p0, q0, hargs, rfl, rfl, h0, r0⟩ := trodAll_cons hA
  obtain ⟨rfl, rfl, rfl⟩ := trodAll_nil r0
  obtain rfl : args = #[v0] := by cases args; simp_all
  obtain ⟨rfl, rfl⟩ := trodVars_none hV
  have k0 := h0
  have lt0 : ∀ x ∈ p0, x.block < W.heap.size := by obtain ⟨m, hm⟩ := k0; exact DataW.trod_lt m _ _ _ hm
  obtain ⟨l0, hl0, cs0, rfl, is0⟩ := VM.open_flat 8 (ks := [.int .u32, .int .u16, .int .u32, .int .u16, .int .u32, .int .u32, .int .u8, .int .u16, .int .u16, .int .u16, .int .i64, .str]) Try.underlying63 (by kernel_rfl) (hval 0 63 v0 rfl rfl) h0
  obtain ⟨a0_0, _, rfl, w0_0, a0_1, _, rfl, w0_1, a0_2, _, rfl, w0_2, a0_3, _, rfl, w0_3, a0_4, _, rfl, w0_4, a0_5, _, rfl, w0_5, a0_6, _, rfl, w0_6, a0_7, _, rfl, w0_7, a0_8, _, rfl, w0_8, a0_9, _, rfl, w0_9, a0_10, _, rfl, w0_10, a0_11, _, rfl, w0_11, rfl⟩ := hl0
  obtain rfl : cs0 = #[.int .u32 a0_0, .int .u16 a0_1, .int .u32 a0_2, .int .u16 a0_3, .int .u32 a0_4, .int .u32 a0_5, .int .u8 a0_6, .int .u16 a0_7, .int .u16 a0_8, .int .u16 a0_9, .int .i64 a0_10, .string a0_11] := Array.toList_inj.1 (VM.isL_fun (ρ := fun _ => none) (by intro s hs; simp only [List.mem_cons, List.not_mem_nil, or_false] at hs; rcases hs with rfl | rfl | rfl | rfl | rfl | rfl | rfl | rfl | rfl | rfl | rfl | rfl <;> rfl) (is0 _) ⟨_, _, rfl, rfl, _, _, rfl, rfl, _, _, rfl, rfl, _, _, rfl, rfl, _, _, rfl, rfl, _, _, rfl, rfl, _, _, rfl, rfl, _, _, rfl, rfl, _, _, rfl, rfl, _, _, rfl, rfl, _, _, rfl, rfl, _, _, rfl, rfl, rfl⟩)
  clear hA0 hval0
  refine (VM.L16.answers_row a0_0 a0_1 a0_2 a0_3 a0_4 a0_5 a0_6 a0_7 a0_8 a0_9 a0_10 a0_11 W w0_0 w0_1 w0_2 w0_3 w0_4 w0_5 w0_6 w0_7 w0_8 w0_9 w0_10 w0_11).mono fun e W' ⟨he, bel⟩ => ?_
  subst he
  exact ⟨_, rfl, _, _, _, [], _, [], hW', trodAll_mk1 (shut_bool Try.underlying4 _), (trodAll_cons_mk (Below.trod laidOut (by kernel_rfl) (of_decide_eq_true (by kernel_rfl)) k0 bel lt0) trodAll_mk0), rfl, bel.frame _, fun h => by cases h⟩

theorem over : Rows.tcpAnswersRow.holds Try.pinned (OpenSpec.ofChange Rows.tcpAnswersSpec) :=
  OpenClaim.holds_of_wide 14 Try.f14 rfl rfl rfl rfl rfl rfl rfl ⟨rfl, rfl, rfl, rfl, rfl⟩ rfl rfl rfl rfl rfl (by kernel_rfl) Try.func14 (by kernel_rfl)
    (of_decide_eq_true (by kernel_rfl)) (by unfold Func.isWrapper; first | (rw [if_pos (by decide +kernel)]; kernel_rfl) | (rw [if_neg (by decide +kernel)]; exact ⟨rfl, rfl⟩))
    (fun os started H enc _ => lifted os started H enc)

/-- The statement. -/
theorem proved : Rows.TcpAnswersSaid := over
#print axioms proved
end Go.Proofs.Ytlpeefemffmpmaa.tcpAnswersDone
