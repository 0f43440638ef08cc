/- Law IpList of stevedorelaw10: for every input the law returns true, and each argument reads as it did. -/
import Derived.Test.YtnmeeafnobfobaaRows
import Derived.WalkKit
import Derived.ProofKit
import Derived.OpenShut
import Derived.ShutString
import Derived.ChangeOld
import Derived.Below
import Derived.SizedLaws
import Derived.Test.YtnmeeafnobfobaaVmGl
import Derived.Test.YtnmeeafnobfobaaV10u
namespace Go.Proofs.Ytnmeeafnobfobaa.ipListDone
open Go.ChangeShapes Go.WideShapes Go.ChangeAt Go.RowKit
set_option linter.unusedVariables false

theorem own : ownKnob Try.prog.godebug = none := by kernel_rfl
theorem laidOut : laidOutB Try.prog = true := by kernel_rfl

set_option maxRecDepth 100000 in
theorem lifted (os : Os) (started : os.Started) (H : Type) (enc : TypeId × Value → H) :
    ReturnsInHanded {} Try.checked os 13 .any (Rows.ipListSpec.pre6 enc Try.prog Try.f13 Rows.ipListRow.domain false) (Rows.ipListSpec.post enc Try.prog Try.f13 false true false false) := by
  refine returnsInHanded_of_change_sized (C := Try.checked) own started (by kernel_rfl) Try.func13
    (ChangeSpec.witness6 (enc := enc) (C := Try.checked) false ⟨#[], #[.slice none 0 0, .string ⟨#[]⟩], []⟩ 8 (by kernel_rfl) (by kernel_rfl) (by kernel_rfl) (by kernel_rfl)) ?_
  intro W base args ds gs before hval0 hW hcnd hsz _
  have hval : ∀ (j : Nat) t v, Try.f13.params[j]? = some t → args[j]? = some v → Value.okWide Try.prog W .any base t v := hval0
  have hW' := hW
  obtain ⟨p, q, hA0, hV, rfl, hfz, hnd⟩ := hW
  have hA : DataW.TrodAll enc Try.prog W 0 (fun _ => true) true Try.f13.params.toList args.toList ds p := hA0
  rw [Try.params13] at hA hval hsz
  obtain ⟨v0, vs0, d0, ds0, p0, q0, hargs, rfl, rfl, h0, r0⟩ := trodAll_cons hA
  obtain ⟨v1, vs1, d1, ds1, p1, q1, rfl, rfl, rfl, h1, r1⟩ := trodAll_cons r0
  obtain ⟨rfl, rfl, rfl⟩ := trodAll_nil r1
  obtain rfl : args = #[v0, v1] := by cases args; simp_all
  obtain ⟨rfl, rfl⟩ := trodVars_none hV
  have k0 := h0
  have lt0 : ∀ x ∈ p0, x.block < W.heap.size := by obtain ⟨m, hm⟩ := k0; exact DataW.trod_lt m _ _ _ hm
  have z0 := VM.weights_at hsz 0 rfl rfl
  have k1 := h1
  have lt1 : ∀ x ∈ p1, x.block < W.heap.size := by obtain ⟨m, hm⟩ := k1; exact DataW.trod_lt m _ _ _ hm
  have z1 := VM.weights_at hsz 1 rfl rfl
  clear hA0 hval0
  have o0 := VM.open_flats 8 (ks := [.int .u8, .str]) Try.underlying64 (by kernel_rfl) (by kernel_rfl) (hval 0 64 v0 rfl rfl) h0 z0
  obtain ⟨a1, rfl, w1⟩ := VM.open_strz Try.underlying9 (hval 1 9 v1 rfl rfl) h1 z1
  have walk : Calls Try.prog 13 #[v0, .string a1] W fun e W' => e = .returned (.bool true) ∧ Below W.heap.size W W' := by
    rcases o0 with rfl | ⟨b0, f0, cap0, rows0, rfl, le0, len0, ok0, c0⟩
    ·
      exact VM.calls_of_rows [] (by intro x hx; cases hx) (VM.G2.iplist_row0 a1 w1) (fun _ _ h => h.1) ⟨_, _, rfl, rfl, _, _, rfl, rfl, rfl⟩
    ·
      obtain ⟨xs0, e0, n0, x0⟩ := VM.G2.opt_rows rows0 ok0
      rw [e0] at c0
      rw [← n0] at len0 le0 ⊢
      exact VM.calls_of_rows [(b0, f0, _)] (by intro x hx; simp only [List.mem_cons, List.not_mem_nil, or_false] at hx; subst hx; assumption) (VM.G2.iplist_row1 xs0 (.is cap0) a1 len0 x0 w1) (fun _ _ h => h.1) ⟨_, _, rfl, VM.slc_is (L := [(b0, f0, _)]) (n := 0) rfl le0, _, _, rfl, rfl, rfl⟩
  refine walk.mono fun e W' ⟨he, bel⟩ => ?_
  subst he
  exact ⟨_, rfl, _, _, _, [], _, [], hW', trodAll_mk1 (shut_bool Try.underlying4 _), (trodAll_cons_mk (Below.trod laidOut (by kernel_rfl) (of_decide_eq_true (by kernel_rfl)) k0 bel lt0) (trodAll_cons_mk (Below.trod laidOut (by kernel_rfl) (of_decide_eq_true (by kernel_rfl)) k1 bel lt1) trodAll_mk0)), rfl, bel.frame _, fun h => by cases h⟩

theorem over : Rows.ipListRow.holds Try.pinned (OpenSpec.ofChange Rows.ipListSpec) :=
  OpenClaim.holds_of_wide 13 Try.f13 rfl rfl rfl rfl rfl rfl rfl ⟨rfl, rfl, rfl, rfl, rfl⟩ rfl rfl rfl rfl rfl (by kernel_rfl) Try.func13 (by kernel_rfl)
    (of_decide_eq_true (by kernel_rfl)) (by unfold Func.isWrapper; first | (rw [if_pos (by decide +kernel)]; kernel_rfl) | (rw [if_neg (by decide +kernel)]; exact ⟨rfl, rfl⟩))
    (fun os started H enc _ => lifted os started H enc)

/-- The statement. -/
theorem proved : Rows.IpListSaid := over
#print axioms proved
end Go.Proofs.Ytnmeeafnobfobaa.ipListDone
