/- Law EtherBack of stevedorelaw07: for every input the law returns true, and each argument reads as it did; the card. -/
import Derived.Test.YtnikpanebkknfaaDoorCrd7
import Derived.ChangeOld
import Derived.Below
import Derived.SizedLaws
import Derived.Test.YtnikpanebkknfaaDoorVmGl
import Derived.Test.YtnikpanebkknfaaDoorV07k
namespace Go.Proofs.YtnikpanebkknfaaDoor.etherBackDone
open Go.ChangeShapes Go.WideShapes Go.ChangeAt Go.RowKit
set_option linter.unusedVariables false

theorem reads (os : Os) {H : Type} (enc : TypeId × Value → H) : ∃ places, DataW.whole enc Tryd.prog ((World.laidAll Tryd.prog os laidL).forCall (fun _ _ => 0) ⟨#[], #[.agg #[.int .u64 0, .int .u64 0, .int .u16 0, .string ⟨#[]⟩], .string ⟨#[]⟩], []⟩).memory Tryd.f11.params.toList Rows.etherBackSpec.vars false #[(.agg #[.int .u64 0, .int .u64 0, .int .u16 0, .string ⟨#[]⟩] : Value), (.string ⟨#[]⟩ : Value)].toList 8 = some ([.agg [.lit (.int .u64 0), .lit (.int .u64 0), .lit (.int .u16 0), .lit (.string [])], .lit (.string [])], [], places) :=
  ⟨[], by kernel_rfl⟩
set_option maxRecDepth 100000 in
theorem lifted (os : Os) (started : os.Started) (H : Type) (enc : TypeId × Value → H) (F : Stop.Interp) :
    ReturnsInHanded {} Tryd.checked os 11 .any ((OpenSpec.ofChange Rows.etherBackSpec).preRow enc Tryd.prog Tryd.f11 Rows.etherBackRow.domain false Rows.etherBackRow.laid) (((OpenSpec.ofChange Rows.etherBackSpec).at F).post enc Tryd.prog Tryd.f11 false true false false) := by
  obtain ⟨places, hx⟩ := reads os enc
  refine returnsInHanded_of_row (C := Tryd.checked) (s := OpenSpec.ofChange Rows.etherBackSpec) own started (by kernel_rfl) Tryd.func11
    (witness_row_at (enc := enc) (C := Tryd.checked) false (World.laidAll Tryd.prog os laidL) #[.agg #[.int .u64 0, .int .u64 0, .int .u16 0, .string ⟨#[]⟩], .string ⟨#[]⟩] (World.laidAll_os _ _ _) (by kernel_rfl) (by kernel_rfl) (by kernel_rfl)
      (OpenSpec.preRow_of_cond 8 hx (by kernel_rfl) (fun k hk => by cases hk) (by kernel_rfl) (laid_witness os _))) ?_
  intro W base args ds gs before hval0 hW _ _ hsz hL hsh _
  have hval : ∀ (j : Nat) t v, Tryd.f11.params[j]? = some t → args[j]? = some v → Value.okWide Tryd.prog W .any base t v := hval0
  have hW' := hW
  obtain ⟨p, q, hA0, hV, rfl, hfz, hnd⟩ := hW
  have hA : DataW.TrodAll enc Tryd.prog W 0 (fun _ => true) true Tryd.f11.params.toList args.toList ds p := hA0
  rw [Tryd.params11] at hA hval hsz
  obtain ⟨v0, vs0, d0, ds0, p0, q0, hargs, rfl, rfl, h0, r0⟩ := trodAll_cons hA
  obtain ⟨v1, vs1, d1, ds1, p1, q1, rfl, rfl, rfl, h1, r1⟩ := trodAll_cons r0
  obtain ⟨rfl, rfl, rfl⟩ := trodAll_nil r1
  obtain rfl : args = #[v0, v1] := by cases args; simp_all
  obtain ⟨rfl, rfl⟩ := trodVars_none hV
  have k0 := h0
  have lt0 : ∀ x ∈ p0, x.block < W.heap.size := by obtain ⟨m, hm⟩ := k0; exact DataW.trod_lt m _ _ _ hm
  have z0 := VM.weights_at hsz 0 rfl rfl
  have k1 := h1
  have lt1 : ∀ x ∈ p1, x.block < W.heap.size := by obtain ⟨m, hm⟩ := k1; exact DataW.trod_lt m _ _ _ hm
  have z1 := VM.weights_at hsz 1 rfl rfl
  clear hA0 hval0
  obtain ⟨l0, hl0, rfl⟩ := VM.open_flatz 8 (ks := [.int .u64, .int .u64, .int .u16, .str]) Tryd.underlying28 (by kernel_rfl) (hval 0 28 v0 rfl rfl) h0 z0
  obtain ⟨a0_0, _, rfl, w0_0, a0_1, _, rfl, w0_1, a0_2, _, rfl, w0_2, a0_3, _, rfl, w0_3, rfl⟩ := hl0
  obtain ⟨a1, rfl, w1⟩ := VM.open_strz Tryd.underlying9 (hval 1 9 v1 rfl rfl) h1 z1
  have walk : Calls Tryd.prog 11 #[.agg ⟨VM.slVal [.int .u64 a0_0, .int .u64 a0_1, .int .u16 a0_2, .str a0_3]⟩, .string a1] W fun e W' => e = .returned (.bool true) ∧ Below W.heap.size W W' := by
    exact VM.calls_of_rows (G := ⟨W, 8⟩) [] (by intro x hx; cases hx) (VM.G4.back_ (tabs8_of hL hsh) (by show 8 ≤ 8; decide) (tz_cell hL) a0_0 a0_1 a0_2 a0_3 a1 w0_0 w0_1 w0_2) (fun _ _ h => h.1) ⟨_, _, rfl, (VM.pv_iff (by rfl)).2 rfl, _, _, rfl, rfl, rfl⟩ (low8_of hL)
  refine walk.mono fun e W' ⟨he, bel⟩ => ?_
  subst he
  exact ⟨_, rfl, _, _, _, [], _, [], hW', trodAll_mk1 (shut_bool Tryd.underlying4 _), (trodAll_cons_mk (Below.trod laidOut (by kernel_rfl) (of_decide_eq_true (by kernel_rfl)) k0 bel lt0) (trodAll_cons_mk (Below.trod laidOut (by kernel_rfl) (of_decide_eq_true (by kernel_rfl)) k1 bel lt1) trodAll_mk0)), rfl, bel.frame _, fun h => by cases h⟩

theorem over : Rows.EtherBackSaid :=
  OpenClaim.holds_of_cond 11 Tryd.f11 rfl rfl rfl rfl rfl rfl rfl ⟨rfl, rfl, rfl, rfl, rfl⟩ rfl rfl rfl rfl rfl (by kernel_rfl) Tryd.func11 (by kernel_rfl)
    (of_decide_eq_true (by kernel_rfl)) (by unfold Func.isWrapper; first | (rw [if_pos (by decide +kernel)]; kernel_rfl) | (rw [if_neg (by decide +kernel)]; exact ⟨rfl, rfl⟩))
    (fun os started H enc _ F => by rw [OpenClaim.pre_eq_preRow]; exact lifted os started H enc F)

theorem plain (f : FuncId) (fn : Func) (hf : Tryd.pinned.checked.prog.funcNamed "stevedore/stevedorelaw07.EtherBack" = some f) (hfn : Tryd.pinned.checked.prog.funcs[f]? = some fn) :
    true = Tryd.pinned.checked.prog.looks [] ∧ ∀ (j : Nat) t, fn.params[j]? = some t → Tryd.pinned.checked.prog.wantsStandIn t = false := by
  obtain rfl : f = 11 := Option.some.inj ((show Tryd.prog.funcNamed "stevedore/stevedorelaw07.EtherBack" = some 11 by kernel_rfl).symm.trans hf) |>.symm
  obtain rfl : fn = Tryd.f11 := (Option.some.inj (Tryd.func11.symm.trans hfn)).symm
  refine ⟨by kernel_rfl, fun j t ht => ?_⟩
  rw [Tryd.params11] at ht
  have hm : t ∈ [28, 9] := by simpa using Array.mem_of_getElem? ht
  have hall : ([28, 9].all fun u => !Tryd.prog.wantsStandIn u) = true := by kernel_rfl
  exact (show Tryd.prog.wantsStandIn t = false by simpa using List.all_eq_true.1 hall t hm)
/-- The card. -/
theorem proved : Rows.EtherBackCardSaid :=
  Claim7.holds_tied_plain_at .later [] _ _ _ _ over (fun _ h => by cases h) (by kernel_rfl) (fun _ h => by cases h) etherBack_row_tie rfl ⟨rfl, rfl⟩ (by kernel_rfl) rfl plain (by kernel_rfl)
#print axioms proved
end Go.Proofs.YtnikpanebkknfaaDoor.etherBackDone
