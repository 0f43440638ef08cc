/- law 18 by the evaluator: new locks, and those of the document. -/
import Derived.Test.YtmdfkggflainbaaV18d
namespace Go.Proofs.Ytmdfkggflainbaa.VM
namespace G5
open Go.RowKit
set_option linter.unusedVariables false
set_option linter.unusedSimpArgs false
set_option maxRecDepth 100000
variable {G : Ground}
def vf_ref18_Locks__may : VFn := ⟨(.seq (.reg [
    ⟨(some 6), .mv (.c (.p (.o (.bool false)))), none, 0⟩] 0 none) (.seq (.reg [
    ⟨(some 7), .mv (.t 1), none, 0⟩,
    ⟨(some 8), .bin .geq (.t 7) (.c (.p (.o (.int .i64 0)))), none, 0⟩,
    ⟨(some 9), .mv (.t 8), none, 0⟩,
    ⟨(some 10), .mv (.t 1), (some (9, true)), 0⟩,
    ⟨(some 11), .mv (.t 0), (some (9, true)), 0⟩,
    ⟨(some 12), .nilc (.t 11), (some (9, true)), 0⟩,
    ⟨(some 13), .fad 0 (.t 12), (some (9, true)), 0⟩,
    ⟨(some 14), .ld none (.t 13), (some (9, true)), 0⟩,
    ⟨(some 15), .len true (.t 14), (some (9, true)), 0⟩,
    ⟨(some 16), .bin .lss (.t 10) (.t 15), (some (9, true)), 0⟩,
    ⟨(some 17), .pick (.t 9) (.t 16) (.c (.p (.o (.bool false)))), none, 0⟩,
    ⟨(some 18), .mv (.t 17), none, 0⟩,
    ⟨(some 19), .mv (.t 2), (some (18, true)), 0⟩,
    ⟨(some 20), .bin .geq (.t 19) (.c (.p (.o (.int .i64 0)))), (some (18, true)), 0⟩,
    ⟨(some 21), .pick (.t 18) (.t 20) (.c (.p (.o (.bool false)))), none, 0⟩,
    ⟨(some 22), .mv (.t 21), none, 0⟩,
    ⟨(some 23), .mv (.t 2), (some (22, true)), 0⟩,
    ⟨(some 24), .bin .lss (.t 23) (.c (.p (.o (.int .i64 8)))), (some (22, true)), 0⟩,
    ⟨(some 25), .pick (.t 22) (.t 24) (.c (.p (.o (.bool false)))), none, 0⟩,
    ⟨(some 6), .mv (.t 25), none, 0⟩] 0 none) .ret)),
  [.tmp 6], 26, [0, 1, 2, 6]⟩
theorem ok_ref18_Locks__may : cFn Try.prog eqsT newsT vf_ref18_Locks__may.keep Try.f59 = some vf_ref18_Locks__may := by kernel_rfl
def vf_ref18_Locks__Of : VFn := ⟨(.seq (.reg [
    ⟨(some 4), .mv (.c (.p (.o (.int .i64 0)))), none, 0⟩] 0 none) (.seq (.seq (.reg [
    ⟨(some 5), .mv (.c (.p (.o (.int .i64 0)))), none, 0⟩] 0 none) (.block 0 (.loop (.seq (.seq (.reg [
    ⟨(some 6), .mv (.t 5), none, 0⟩,
    ⟨(some 7), .mv (.t 0), none, 0⟩,
    ⟨(some 8), .nilc (.t 7), none, 0⟩,
    ⟨(some 9), .fad 0 (.t 8), none, 0⟩,
    ⟨(some 10), .ld none (.t 9), none, 0⟩,
    ⟨(some 11), .len true (.t 10), none, 0⟩,
    ⟨(some 12), .bin .lss (.t 6) (.t 11), none, 0⟩] 0 none) (.cond (.t 12) .skip (.exit 0))) (.seq (.block 1 (.seq (.reg [
    ⟨(some 15), .mv (.t 0), none, 0⟩,
    ⟨(some 16), .nilc (.t 15), none, 0⟩,
    ⟨(some 17), .fad 0 (.t 16), none, 0⟩,
    ⟨(some 18), .ld none (.t 17), none, 0⟩,
    ⟨(some 19), .mv (.t 5), none, 0⟩,
    ⟨(some 20), .iad 1 (.t 18) (.t 19), none, 0⟩,
    ⟨(some 21), .ld none (.t 20), none, 0⟩,
    ⟨(some 22), .mv (.t 1), none, 0⟩,
    ⟨(some 23), .bin .eql (.t 21) (.t 22), none, 0⟩] 0 none) (.cond (.t 23) (.seq (.reg [
    ⟨(some 24), .mv (.t 5), none, 0⟩,
    ⟨(some 4), .mv (.t 24), none, 0⟩] 0 none) .ret) .skip))) (.reg [
    ⟨(some 13), .mv (.t 5), none, 0⟩,
    ⟨(some 14), .bin .add (.t 13) (.c (.p (.o (.int .i64 1)))), none, 0⟩,
    ⟨(some 5), .mv (.t 14), none, 0⟩] 0 none)))))) (.seq (.reg [
    ⟨(some 4), .mv (.c (.p (.o (.int .i64 (-1))))), none, 0⟩] 0 none) .ret))),
  [.tmp 4], 25, [0, 1, 4, 5]⟩
theorem ok_ref18_Locks__Of : cFn Try.prog eqsT newsT vf_ref18_Locks__Of.keep Try.f26 = some vf_ref18_Locks__Of := by kernel_rfl
def vf_ref18_Locks__Try : VFn := ⟨(.seq (.reg [
    ⟨(some 6), .mv (.c (.p (.o (.int .u8 0)))), none, 0⟩,
    ⟨(some 7), .mv (.c (.p (.o (.int .i64 0)))), none, 0⟩] 0 none) (.seq (.seq (.reg [
    ⟨(some 8), .mv (.t 0), none, 0⟩,
    ⟨(some 9), .mv (.t 1), none, 0⟩,
    ⟨(some 10), .mv (.t 2), none, 0⟩,
    ⟨(some 11), .call 59 [(.t 8), (.t 9), (.t 10)] 0, none, 0⟩,
    ⟨(some 12), .un .not (.t 11), none, 0⟩] 0 none) (.cond (.t 12) (.seq (.reg [
    ⟨(some 6), .mv (.c (.p (.o (.int .u8 0)))), none, 0⟩,
    ⟨(some 7), .mv (.c (.p (.o (.int .i64 2)))), none, 0⟩] 0 none) .ret) .skip)) (.seq (.seq (.reg [
    ⟨(some 13), .mv (.t 0), none, 0⟩,
    ⟨(some 14), .nilc (.t 13), none, 0⟩,
    ⟨(some 15), .fad 0 (.t 14), none, 0⟩,
    ⟨(some 16), .ld none (.t 15), none, 0⟩,
    ⟨(some 17), .mv (.t 1), none, 0⟩,
    ⟨(some 18), .iad 1 (.t 16) (.t 17), none, 0⟩,
    ⟨(some 19), .ld none (.t 18), none, 0⟩,
    ⟨(some 20), .mv (.t 2), none, 0⟩,
    ⟨(some 21), .bin .eql (.t 19) (.t 20), none, 0⟩] 0 none) (.cond (.t 21) (.seq (.reg [
    ⟨(some 6), .mv (.c (.p (.o (.int .u8 2)))), none, 0⟩,
    ⟨(some 7), .mv (.c (.p (.o (.int .i64 0)))), none, 0⟩] 0 none) .ret) .skip)) (.seq (.seq (.reg [
    ⟨(some 22), .mv (.t 0), none, 0⟩,
    ⟨(some 23), .mv (.t 2), none, 0⟩,
    ⟨(some 24), .call 26 [(.t 22), (.t 23)] 0, none, 0⟩,
    ⟨(some 25), .bin .geq (.t 24) (.c (.p (.o (.int .i64 0)))), none, 0⟩] 0 none) (.cond (.t 25) (.seq (.reg [
    ⟨(some 6), .mv (.c (.p (.o (.int .u8 0)))), none, 0⟩,
    ⟨(some 7), .mv (.c (.p (.o (.int .i64 3)))), none, 0⟩] 0 none) .ret) .skip)) (.seq (.seq (.reg [
    ⟨(some 26), .mv (.t 0), none, 0⟩,
    ⟨(some 27), .nilc (.t 26), none, 0⟩,
    ⟨(some 28), .fad 0 (.t 27), none, 0⟩,
    ⟨(some 29), .ld none (.t 28), none, 0⟩,
    ⟨(some 30), .mv (.t 1), none, 0⟩,
    ⟨(some 31), .iad 1 (.t 29) (.t 30), none, 0⟩,
    ⟨(some 32), .ld none (.t 31), none, 0⟩,
    ⟨(some 33), .bin .lss (.t 32) (.c (.p (.o (.int .i64 0)))), none, 0⟩] 0 none) (.cond (.t 33) (.seq (.reg [
    ⟨(some 34), .mv (.t 0), none, 0⟩,
    ⟨(some 35), .nilc (.t 34), none, 0⟩,
    ⟨(some 36), .fad 0 (.t 35), none, 0⟩,
    ⟨(some 37), .ld none (.t 36), none, 0⟩,
    ⟨(some 38), .mv (.t 1), none, 0⟩,
    ⟨(some 39), .mv (.t 2), none, 0⟩,
    ⟨(some 40), .iad 1 (.t 37) (.t 38), none, 0⟩,
    ⟨none, .st 1 (.t 40) (.t 39), none, 0⟩] 0 none) (.seq (.reg [
    ⟨(some 6), .mv (.c (.p (.o (.int .u8 1)))), none, 0⟩,
    ⟨(some 7), .mv (.c (.p (.o (.int .i64 0)))), none, 0⟩] 0 none) .ret)) .skip)) (.seq (.reg [
    ⟨(some 41), .mv (.t 0), none, 0⟩,
    ⟨(some 42), .mv (.t 2), none, 0⟩,
    ⟨(some 43), .nilc (.t 41), none, 0⟩,
    ⟨(some 44), .fad 1 (.t 43), none, 0⟩,
    ⟨(some 45), .iaa 8 1 (.t 44) (.t 42), none, 0⟩,
    ⟨(some 46), .ld none (.t 45), none, 0⟩,
    ⟨(some 47), .bin .add (.t 46) (.c (.p (.o (.int .u64 1)))), none, 0⟩,
    ⟨(some 48), .nilc (.t 41), none, 0⟩,
    ⟨(some 49), .fad 1 (.t 48), none, 0⟩,
    ⟨(some 50), .iaa 8 1 (.t 49) (.t 42), none, 0⟩,
    ⟨none, .st 1 (.t 50) (.t 47), none, 0⟩] 0 (some [(0, 1), (1, 2), (1, 3), (1, 7), (2, 7), (3, 7), (4, 7), (5, 7), (6, 7), (1, 8), (2, 8), (3, 8), (4, 8), (5, 8), (6, 8)])) (.seq (.reg [
    ⟨(some 6), .mv (.c (.p (.o (.int .u8 0)))), none, 0⟩,
    ⟨(some 7), .mv (.c (.p (.o (.int .i64 0)))), none, 0⟩] 0 none) .ret))))))),
  [.tmp 6, .tmp 7], 51, [0, 1, 2, 6, 7]⟩
theorem ok_ref18_Locks__Try : cFn Try.prog eqsT newsT vf_ref18_Locks__Try.keep Try.f23 = some vf_ref18_Locks__Try := by kernel_rfl
def vf_ref18_Locks__Free : VFn := ⟨(.seq (.reg [
    ⟨(some 6), .mv (.c (.p (.o (.int .i64 0)))), none, 0⟩] 0 none) (.seq (.seq (.reg [
    ⟨(some 7), .mv (.t 0), none, 0⟩,
    ⟨(some 8), .mv (.t 1), none, 0⟩,
    ⟨(some 9), .mv (.t 2), none, 0⟩,
    ⟨(some 10), .call 59 [(.t 7), (.t 8), (.t 9)] 0, none, 0⟩,
    ⟨(some 11), .un .not (.t 10), none, 0⟩] 0 none) (.cond (.t 11) (.seq (.reg [
    ⟨(some 6), .mv (.c (.p (.o (.int .i64 2)))), none, 0⟩] 0 none) .ret) .skip)) (.seq (.seq (.reg [
    ⟨(some 12), .mv (.t 0), none, 0⟩,
    ⟨(some 13), .nilc (.t 12), none, 0⟩,
    ⟨(some 14), .fad 0 (.t 13), none, 0⟩,
    ⟨(some 15), .ld none (.t 14), none, 0⟩,
    ⟨(some 16), .mv (.t 1), none, 0⟩,
    ⟨(some 17), .iad 1 (.t 15) (.t 16), none, 0⟩,
    ⟨(some 18), .ld none (.t 17), none, 0⟩,
    ⟨(some 19), .mv (.t 2), none, 0⟩,
    ⟨(some 20), .bin .neq (.t 18) (.t 19), none, 0⟩] 0 none) (.cond (.t 20) (.seq (.reg [
    ⟨(some 6), .mv (.c (.p (.o (.int .i64 3)))), none, 0⟩] 0 none) .ret) .skip)) (.seq (.reg [
    ⟨(some 21), .mv (.t 0), none, 0⟩,
    ⟨(some 22), .nilc (.t 21), none, 0⟩,
    ⟨(some 23), .fad 0 (.t 22), none, 0⟩,
    ⟨(some 24), .ld none (.t 23), none, 0⟩,
    ⟨(some 25), .mv (.t 1), none, 0⟩,
    ⟨(some 26), .iad 1 (.t 24) (.t 25), none, 0⟩,
    ⟨none, .st 1 (.t 26) (.c (.p (.o (.int .i64 (-1))))), none, 0⟩] 0 none) (.seq (.reg [
    ⟨(some 6), .mv (.c (.p (.o (.int .i64 0)))), none, 0⟩] 0 none) .ret))))),
  [.tmp 6], 27, [0, 1, 2, 6]⟩
theorem ok_ref18_Locks__Free : cFn Try.prog eqsT newsT vf_ref18_Locks__Free.keep Try.f22 = some vf_ref18_Locks__Free := by kernel_rfl
def vf_ref18_New : VFn := ⟨(.seq (.reg [
    ⟨(some 2), .mv (.c (.p (.o (.nilp)))), none, 0⟩] 0 none) (.seq (.reg [
    ⟨(some 5), .bld [.nils, .int .u64 0, .int .u64 0, .int .u64 0, .int .u64 0, .int .u64 0, .int .u64 0, .int .u64 0, .int .u64 0] [], none, 0⟩,
    ⟨(some 6), .box (.t 5), none, 0⟩,
    ⟨(some 3), .mv (.t 6), none, 1⟩] 1 none) (.seq (.seq (.reg [
    ⟨(some 4), .mv (.c (.p (.o (.int .i64 0)))), none, 0⟩] 0 none) (.block 0 (.loop (.seq (.seq (.reg [
    ⟨(some 7), .mv (.t 4), none, 0⟩,
    ⟨(some 8), .mv (.t 0), none, 0⟩,
    ⟨(some 9), .bin .lss (.t 7) (.t 8), none, 0⟩] 0 none) (.cond (.t 9) .skip (.exit 0))) (.seq (.block 1 (.reg [
    ⟨(some 12), .mv (.t 3), none, 0⟩,
    ⟨(some 13), .mv (.t 3), none, 0⟩,
    ⟨(some 14), .nilc (.t 13), none, 0⟩,
    ⟨(some 15), .fad 0 (.t 14), none, 0⟩,
    ⟨(some 16), .ld none (.t 15), none, 0⟩,
    ⟨(some 17), .bsl 1 [.int .i64 0] [(0, 1, (.c (.p (.o (.int .i64 (-1))))))], none, 0⟩,
    ⟨(some 18), .app 1 8 (.t 16) (.t 17), none, 1⟩,
    ⟨(some 19), .nilc (.t 12), none, 2⟩,
    ⟨(some 20), .fad 0 (.t 19), none, 2⟩,
    ⟨none, .st 1 (.t 20) (.t 18), none, 2⟩] 2 none)) (.reg [
    ⟨(some 10), .mv (.t 4), none, 0⟩,
    ⟨(some 11), .bin .add (.t 10) (.c (.p (.o (.int .i64 1)))), none, 0⟩,
    ⟨(some 4), .mv (.t 11), none, 0⟩] 0 none)))))) (.seq (.reg [
    ⟨(some 21), .mv (.t 3), none, 0⟩,
    ⟨(some 2), .mv (.t 21), none, 0⟩] 0 none) .ret)))),
  [.tmp 2], 22, [0, 2, 3, 4]⟩
theorem ok_ref18_New : cFn Try.prog eqsT newsT vf_ref18_New.keep Try.f21 = some vf_ref18_New := by kernel_rfl
set_option maxHeartbeats 4000000 in
theorem new_det (n : Nat) (h : 1 ≤ n ∧ n ≤ 1024) : Det G Try.prog 14 [.o (.int .i64 n)] [] (.t [.o (.ptr 0 0), .o (.int .i64 0)]) [.row true false (lockSV (new n).of_ (new n).sp n), .row true true (i64SV (new n).own)] := by
  refine can_of_W known mix Try.func14 (by kernel_rfl) ok_lock_New (Nat.le_of_ble_eq_true rfl) ?_
  repeat' ((conv => whnf); first
    | ((with_reducible refine Look.mk ?_); refine ⟨_, rfl, ?_⟩)
    | ((with_reducible refine LookN.zeros ?_))
    | ((with_reducible refine LookN.bytes ?_ ?_); (simp; done))
    | ((with_reducible refine BytesW.bytes ?_))
    | ((with_reducible refine Look.byte ?_ ?_); omega)
    | ((with_reducible refine Look.setb ?_ ?_ ?_); exact bv8_bd _; omega)
    | ((with_reducible refine LookN.setb ?_ ?_ ?_); exact bv8_bd _; omega)
    | ((with_reducible refine LookN.mk ?_); refine ⟨_, rfl, ?_⟩)
    | ((with_reducible refine Need.mk ?_ ?_); first | ((with_reducible refine needB ?_); kernel_rfl) | with_reducible rfl | omega | (with_reducible refine ⟨rfl, ?_⟩; focus omega) | (simp only [ByteArray.size_append, size_lit, List.size_toArray, List.length_cons, List.length_nil]; omega) | exact rfl | trivial | exact Nat.le_of_ble_eq_true rfl | (exact ⟨rfl, by omega⟩) | (intro h; first | rfl | cases h) | (simp only [lenS_text, lenS_setN, lenS_zeros]; omega))
    | ((with_reducible refine BytesW.mk ?_); refine ⟨_, rfl, ?_⟩)
    | (with_reducible refine CallW.det (rep_det n h) ?_)
    | ((with_reducible refine WrT.same ?_ ?_); focus ((repeat ((conv => whnf); first | exact trivial | (apply And.intro; focus rfl))); done))
    | (with_reducible refine WrT.all ?_)
    | (with_reducible refine DropW.keep ?_)
    | (with_reducible refine LoopW.unroll (fun X hX => ?_))
    | (refine hX _ _ ?_)
    | ((with_reducible refine Test.tmodEqT ?_ ?_ ?_); omega; focus first | omega | assumption)
    | ((with_reducible refine Test.tmodEqF ?_ ?_ ?_); omega; focus first | omega | assumption)
    | ((with_reducible refine Test.tmodNeT ?_ ?_ ?_); omega; focus first | omega | assumption)
    | ((with_reducible refine Test.tmodNeF ?_ ?_ ?_); omega; focus first | omega | assumption)
    | ((with_reducible refine Test.tmodEq ?_ (fun h => ?_) (fun h => ?_)); omega)
    | ((with_reducible refine Test.tmodNe ?_ (fun h => ?_) (fun h => ?_)); omega)
    | ((with_reducible refine Test.notT ?_ ?_); focus assumption)
    | ((with_reducible refine Test.notF ?_ ?_); focus assumption)
    | (with_reducible refine Test.notIe (fun h => ?_) (fun h => ?_))
    | (with_reducible refine Test.notD (fun h => ?_) (fun h => ?_))
    | ((with_reducible refine Test.empty (fun h => ?_) (fun h => ?_)))
    | (with_reducible refine Test.tt ?_)
    | (with_reducible refine Test.ff ?_)
    | ((with_reducible refine Test.dt ?_ ?_); omega)
    | ((with_reducible refine Test.df ?_ ?_); omega)
    | (with_reducible refine Test.d (fun h => ?_) (fun h => ?_))
    | ((with_reducible refine Test.ieT ?_ ?_); omega)
    | ((with_reducible refine Test.ieF ?_ ?_); omega)
    | ((with_reducible refine Test.neT ?_ ?_); omega)
    | ((with_reducible refine Test.neF ?_ ?_); omega)
    | (with_reducible refine Test.ie (fun h => ?_) (fun h => ?_))
    | (with_reducible refine Test.ne (fun h => ?_) (fun h => ?_))
    | ((with_reducible refine Test.b ?_ ?_); (focus first | assumption | (simp [negB]; done) | exact rfl))
    | ((with_reducible refine Test.nb ?_ ?_); (focus first | assumption | (simp [negB]; done) | exact rfl))
    | (with_reducible refine Test.notS (fun h => ?_) (fun h => ?_))
    | (with_reducible refine Test.mk (fun h => ?_) (fun h => ?_))
    | ((with_reducible refine Arith.tdiv ?_ ?_); omega)
    | (with_reducible refine Arith.bv8 ?_)
    | (with_reducible refine Arith.bv16 ?_)
    | (with_reducible refine Arith.bv32 ?_)
    | (with_reducible refine Arith.bv64 ?_)
    | ((with_reducible refine Arith.i64 ?_ ?_); omega)
    | ((with_reducible refine Arith.u64 ?_ ?_); omega)
    | ((with_reducible refine Arith.u32 ?_ ?_); omega)
    | ((with_reducible refine Arith.u16 ?_ ?_); omega)
    | ((with_reducible refine Arith.u8 ?_ ?_); omega)
    | ((with_reducible refine Arith.i32 ?_ ?_); omega)
    | (with_reducible refine Arith.mk ?_)
    | (with_reducible refine Ends.mk ?_))
  all_goals first | exact ⟨rfl, rfl⟩ | (exfalso; omega)
set_option maxHeartbeats 4000000 in
theorem new_bad (n : Int) (h : n < 1 ∨ 1024 < n) : Det G Try.prog 14 [.o (.int .i64 n)] [] (.t [.o .nilp, .o (.int .i64 2)]) [] := by
  refine can_of_W known mix Try.func14 (by kernel_rfl) ok_lock_New (Nat.le_of_ble_eq_true rfl) ?_
  repeat' ((conv => whnf); first
    | ((with_reducible refine Look.mk ?_); refine ⟨_, rfl, ?_⟩)
    | ((with_reducible refine LookN.zeros ?_))
    | ((with_reducible refine LookN.bytes ?_ ?_); (simp; done))
    | ((with_reducible refine BytesW.bytes ?_))
    | ((with_reducible refine Look.byte ?_ ?_); omega)
    | ((with_reducible refine Look.setb ?_ ?_ ?_); exact bv8_bd _; omega)
    | ((with_reducible refine LookN.setb ?_ ?_ ?_); exact bv8_bd _; omega)
    | ((with_reducible refine LookN.mk ?_); refine ⟨_, rfl, ?_⟩)
    | ((with_reducible refine Need.mk ?_ ?_); first | ((with_reducible refine needB ?_); kernel_rfl) | with_reducible rfl | omega | (with_reducible refine ⟨rfl, ?_⟩; focus omega) | (simp only [ByteArray.size_append, size_lit, List.size_toArray, List.length_cons, List.length_nil]; omega) | exact rfl | trivial | exact Nat.le_of_ble_eq_true rfl | (exact ⟨rfl, by omega⟩) | (intro h; first | rfl | cases h) | (simp only [lenS_text, lenS_setN, lenS_zeros]; omega))
    | ((with_reducible refine BytesW.mk ?_); refine ⟨_, rfl, ?_⟩)
    | ((with_reducible refine WrT.same ?_ ?_); focus ((repeat ((conv => whnf); first | exact trivial | (apply And.intro; focus rfl))); done))
    | (with_reducible refine WrT.all ?_)
    | (with_reducible refine DropW.keep ?_)
    | (with_reducible refine LoopW.unroll (fun X hX => ?_))
    | (refine hX _ _ ?_)
    | ((with_reducible refine Test.tmodEqT ?_ ?_ ?_); omega; focus first | omega | assumption)
    | ((with_reducible refine Test.tmodEqF ?_ ?_ ?_); omega; focus first | omega | assumption)
    | ((with_reducible refine Test.tmodNeT ?_ ?_ ?_); omega; focus first | omega | assumption)
    | ((with_reducible refine Test.tmodNeF ?_ ?_ ?_); omega; focus first | omega | assumption)
    | ((with_reducible refine Test.tmodEq ?_ (fun h => ?_) (fun h => ?_)); omega)
    | ((with_reducible refine Test.tmodNe ?_ (fun h => ?_) (fun h => ?_)); omega)
    | ((with_reducible refine Test.notT ?_ ?_); focus assumption)
    | ((with_reducible refine Test.notF ?_ ?_); focus assumption)
    | (with_reducible refine Test.notIe (fun h => ?_) (fun h => ?_))
    | (with_reducible refine Test.notD (fun h => ?_) (fun h => ?_))
    | ((with_reducible refine Test.empty (fun h => ?_) (fun h => ?_)))
    | (with_reducible refine Test.tt ?_)
    | (with_reducible refine Test.ff ?_)
    | ((with_reducible refine Test.dt ?_ ?_); omega)
    | ((with_reducible refine Test.df ?_ ?_); omega)
    | (with_reducible refine Test.d (fun h => ?_) (fun h => ?_))
    | ((with_reducible refine Test.ieT ?_ ?_); omega)
    | ((with_reducible refine Test.ieF ?_ ?_); omega)
    | ((with_reducible refine Test.neT ?_ ?_); omega)
    | ((with_reducible refine Test.neF ?_ ?_); omega)
    | (with_reducible refine Test.ie (fun h => ?_) (fun h => ?_))
    | (with_reducible refine Test.ne (fun h => ?_) (fun h => ?_))
    | ((with_reducible refine Test.b ?_ ?_); (focus first | assumption | (simp [negB]; done) | exact rfl))
    | ((with_reducible refine Test.nb ?_ ?_); (focus first | assumption | (simp [negB]; done) | exact rfl))
    | (with_reducible refine Test.notS (fun h => ?_) (fun h => ?_))
    | (with_reducible refine Test.mk (fun h => ?_) (fun h => ?_))
    | ((with_reducible refine Arith.tdiv ?_ ?_); omega)
    | (with_reducible refine Arith.bv8 ?_)
    | (with_reducible refine Arith.bv16 ?_)
    | (with_reducible refine Arith.bv32 ?_)
    | (with_reducible refine Arith.bv64 ?_)
    | ((with_reducible refine Arith.i64 ?_ ?_); omega)
    | ((with_reducible refine Arith.u64 ?_ ?_); omega)
    | ((with_reducible refine Arith.u32 ?_ ?_); omega)
    | ((with_reducible refine Arith.u16 ?_ ?_); omega)
    | ((with_reducible refine Arith.u8 ?_ ?_); omega)
    | ((with_reducible refine Arith.i32 ?_ ?_); omega)
    | (with_reducible refine Arith.mk ?_)
    | (with_reducible refine Ends.mk ?_))
  all_goals first | exact ⟨rfl, rfl⟩ | (exfalso; omega)
@[reducible] def refSV (sp : Nat → Int) (n : Nat) : List SV := [.slc 1 0 n (.upto 1), .int .u64 (sp 0), .int .u64 (sp 1), .int .u64 (sp 2), .int .u64 (sp 3), .int .u64 (sp 4), .int .u64 (sp 5), .int .u64 (sp 6), .int .u64 (sp 7)]
@[reducible] def refM (s : LS) : List Row := [.row true false (refSV s.sp s.own.length), .row true true (i64SV s.own)]
theorem need_app {a b c d : Prop} {A : Prop} (h1 : a) (h2 : b) (h3 : c) (h4 : d) (g : A) : Need (a ∧ b ∧ c ∧ d) A := ⟨⟨h1, h2, h3, h4⟩, g⟩
theorem dropN_zero (l : List SV) : dropN l 0 = l := by cases l <;> rfl
theorem i64_snoc (l : List Int) (v : Int) : i64SV l ++ [.int .i64 v] = i64SV (l ++ [v]) := by
  induction l with
  | nil => rfl
  | cons x l ih => simp only [i64SV, List.cons_append, ih]

set_option maxHeartbeats 4000000 in
theorem rnew_det (n : Nat) (h : 1 ≤ n ∧ n ≤ 1024) : Det G Try.prog 21 [.o (.int .i64 n)] [] (vO (.ptr 0 0)) [.row true false (refSV (new n).sp n), .row true true (i64SV (new n).own)] := by
  refine can_of_W known mix Try.func21 (by kernel_rfl) ok_ref18_New (Nat.le_of_ble_eq_true rfl) ?_
  repeat' ((conv => whnf); first
    | ((with_reducible refine Look.mk ?_); refine ⟨_, rfl, ?_⟩)
    | ((with_reducible refine LookN.zeros ?_))
    | ((with_reducible refine LookN.bytes ?_ ?_); (simp; done))
    | ((with_reducible refine BytesW.bytes ?_))
    | ((with_reducible refine Look.byte ?_ ?_); omega)
    | ((with_reducible refine Look.setb ?_ ?_ ?_); exact bv8_bd _; omega)
    | ((with_reducible refine LookN.setb ?_ ?_ ?_); exact bv8_bd _; omega)
    | ((with_reducible refine LookN.mk ?_); refine ⟨_, rfl, ?_⟩)
    | ((with_reducible refine Need.mk ?_ ?_); first | ((with_reducible refine needB ?_); kernel_rfl) | with_reducible rfl | omega | (with_reducible refine ⟨rfl, ?_⟩; focus omega) | (simp only [ByteArray.size_append, size_lit, List.size_toArray, List.length_cons, List.length_nil]; omega) | exact rfl | trivial | exact Nat.le_of_ble_eq_true rfl | (exact ⟨rfl, by omega⟩) | (intro h; first | rfl | cases h) | (simp only [lenS_text, lenS_setN, lenS_zeros]; omega))
    | ((with_reducible refine BytesW.mk ?_); refine ⟨_, rfl, ?_⟩)
    | ((with_reducible refine WrT.same ?_ ?_); focus ((repeat ((conv => whnf); first | exact trivial | (apply And.intro; focus rfl))); done))
    | (with_reducible refine WrT.all ?_)
    | (with_reducible refine DropW.to [2] ?_)
    | (with_reducible refine need_app rfl rfl (by rw [lenS_i64, List.length_replicate]; omega) (by omega) ?_)
    | ((with_reducible refine Test.tmodEqT ?_ ?_ ?_); omega; focus first | omega | assumption)
    | ((with_reducible refine Test.tmodEqF ?_ ?_ ?_); omega; focus first | omega | assumption)
    | ((with_reducible refine Test.tmodNeT ?_ ?_ ?_); omega; focus first | omega | assumption)
    | ((with_reducible refine Test.tmodNeF ?_ ?_ ?_); omega; focus first | omega | assumption)
    | ((with_reducible refine Test.tmodEq ?_ (fun h => ?_) (fun h => ?_)); omega)
    | ((with_reducible refine Test.tmodNe ?_ (fun h => ?_) (fun h => ?_)); omega)
    | ((with_reducible refine Test.notT ?_ ?_); focus assumption)
    | ((with_reducible refine Test.notF ?_ ?_); focus assumption)
    | (with_reducible refine Test.notIe (fun h => ?_) (fun h => ?_))
    | (with_reducible refine Test.notD (fun h => ?_) (fun h => ?_))
    | ((with_reducible refine Test.empty (fun h => ?_) (fun h => ?_)))
    | (with_reducible refine Test.tt ?_)
    | (with_reducible refine Test.ff ?_)
    | ((with_reducible refine Test.dt ?_ ?_); omega)
    | ((with_reducible refine Test.df ?_ ?_); omega)
    | (with_reducible refine Test.d (fun h => ?_) (fun h => ?_))
    | ((with_reducible refine Test.ieT ?_ ?_); omega)
    | ((with_reducible refine Test.ieF ?_ ?_); omega)
    | ((with_reducible refine Test.neT ?_ ?_); omega)
    | ((with_reducible refine Test.neF ?_ ?_); omega)
    | (with_reducible refine Test.ie (fun h => ?_) (fun h => ?_))
    | (with_reducible refine Test.ne (fun h => ?_) (fun h => ?_))
    | ((with_reducible refine Test.b ?_ ?_); (focus first | assumption | (simp [negB]; done) | exact rfl))
    | ((with_reducible refine Test.nb ?_ ?_); (focus first | assumption | (simp [negB]; done) | exact rfl))
    | (with_reducible refine Test.notS (fun h => ?_) (fun h => ?_))
    | (with_reducible refine Test.mk (fun h => ?_) (fun h => ?_))
    | ((with_reducible refine Arith.tdiv ?_ ?_); omega)
    | (with_reducible refine Arith.bv8 ?_)
    | (with_reducible refine Arith.bv16 ?_)
    | (with_reducible refine Arith.bv32 ?_)
    | (with_reducible refine Arith.bv64 ?_)
    | ((with_reducible refine Arith.i64 ?_ ?_); omega)
    | ((with_reducible refine Arith.u64 ?_ ?_); omega)
    | ((with_reducible refine Arith.u32 ?_ ?_); omega)
    | ((with_reducible refine Arith.u16 ?_ ?_); omega)
    | ((with_reducible refine Arith.u8 ?_ ?_); omega)
    | ((with_reducible refine Arith.i32 ?_ ?_); omega)
    | (with_reducible refine Arith.mk ?_)
    | (with_reducible refine Ends.mk ?_))
  refine LoopW.rule (fun f sl M => ∃ k : Nat, sl = [(0, vI .i64 n), (3, vO (.ptr 0 0)), (4, vI .i64 k)] ∧ (k = 0 ∧ M = [.row true false [.nils, .int .u64 0, .int .u64 0, .int .u64 0, .int .u64 0, .int .u64 0, .int .u64 0, .int .u64 0, .int .u64 0]] ∨ 1 ≤ k ∧ M = [.row true false [.slc 1 0 k (.upto 1), .int .u64 0, .int .u64 0, .int .u64 0, .int .u64 0, .int .u64 0, .int .u64 0, .int .u64 0, .int .u64 0], .row true true (i64SV (List.replicate k (-1)))]) ∧ k ≤ n ∧ n - k < f) ?_ (n + 1) ⟨0, rfl, .inl ⟨rfl, rfl⟩, by omega, by omega⟩
  rintro f sl M ⟨k, rfl, hM, h1, h2⟩ X hX
  cases f with
  | zero => omega
  | succ f =>
    rcases hM with ⟨rfl, rfl⟩ | ⟨h3, rfl⟩
    · repeat' ((conv => whnf); first
    | ((with_reducible refine Look.mk ?_); refine ⟨_, rfl, ?_⟩)
    | ((with_reducible refine LookN.zeros ?_))
    | ((with_reducible refine LookN.bytes ?_ ?_); (simp; done))
    | ((with_reducible refine BytesW.bytes ?_))
    | ((with_reducible refine Look.byte ?_ ?_); omega)
    | ((with_reducible refine Look.setb ?_ ?_ ?_); exact bv8_bd _; omega)
    | ((with_reducible refine LookN.setb ?_ ?_ ?_); exact bv8_bd _; omega)
    | ((with_reducible refine LookN.mk ?_); refine ⟨_, rfl, ?_⟩)
    | ((with_reducible refine Need.mk ?_ ?_); first | ((with_reducible refine needB ?_); kernel_rfl) | with_reducible rfl | omega | (with_reducible refine ⟨rfl, ?_⟩; focus omega) | (simp only [ByteArray.size_append, size_lit, List.size_toArray, List.length_cons, List.length_nil]; omega) | exact rfl | trivial | exact Nat.le_of_ble_eq_true rfl | (exact ⟨rfl, by omega⟩) | (intro h; first | rfl | cases h) | (simp only [lenS_text, lenS_setN, lenS_zeros]; omega))
    | ((with_reducible refine BytesW.mk ?_); refine ⟨_, rfl, ?_⟩)
    | ((with_reducible refine WrT.same ?_ ?_); focus ((repeat ((conv => whnf); first | exact trivial | (apply And.intro; focus rfl))); done))
    | (with_reducible refine WrT.all ?_)
    | (with_reducible refine DropW.to [2] ?_)
    | (with_reducible refine need_app rfl rfl (by rw [lenS_i64, List.length_replicate]; omega) (by omega) ?_)
    | ((with_reducible refine Test.tmodEqT ?_ ?_ ?_); omega; focus first | omega | assumption)
    | ((with_reducible refine Test.tmodEqF ?_ ?_ ?_); omega; focus first | omega | assumption)
    | ((with_reducible refine Test.tmodNeT ?_ ?_ ?_); omega; focus first | omega | assumption)
    | ((with_reducible refine Test.tmodNeF ?_ ?_ ?_); omega; focus first | omega | assumption)
    | ((with_reducible refine Test.tmodEq ?_ (fun h => ?_) (fun h => ?_)); omega)
    | ((with_reducible refine Test.tmodNe ?_ (fun h => ?_) (fun h => ?_)); omega)
    | ((with_reducible refine Test.notT ?_ ?_); focus assumption)
    | ((with_reducible refine Test.notF ?_ ?_); focus assumption)
    | (with_reducible refine Test.notIe (fun h => ?_) (fun h => ?_))
    | (with_reducible refine Test.notD (fun h => ?_) (fun h => ?_))
    | ((with_reducible refine Test.empty (fun h => ?_) (fun h => ?_)))
    | (with_reducible refine Test.tt ?_)
    | (with_reducible refine Test.ff ?_)
    | ((with_reducible refine Test.dt ?_ ?_); omega)
    | ((with_reducible refine Test.df ?_ ?_); omega)
    | (with_reducible refine Test.d (fun h => ?_) (fun h => ?_))
    | ((with_reducible refine Test.ieT ?_ ?_); omega)
    | ((with_reducible refine Test.ieF ?_ ?_); omega)
    | ((with_reducible refine Test.neT ?_ ?_); omega)
    | ((with_reducible refine Test.neF ?_ ?_); omega)
    | (with_reducible refine Test.ie (fun h => ?_) (fun h => ?_))
    | (with_reducible refine Test.ne (fun h => ?_) (fun h => ?_))
    | ((with_reducible refine Test.b ?_ ?_); (focus first | assumption | (simp [negB]; done) | exact rfl))
    | ((with_reducible refine Test.nb ?_ ?_); (focus first | assumption | (simp [negB]; done) | exact rfl))
    | (with_reducible refine Test.notS (fun h => ?_) (fun h => ?_))
    | (with_reducible refine Test.mk (fun h => ?_) (fun h => ?_))
    | ((with_reducible refine Arith.tdiv ?_ ?_); omega)
    | (with_reducible refine Arith.bv8 ?_)
    | (with_reducible refine Arith.bv16 ?_)
    | (with_reducible refine Arith.bv32 ?_)
    | (with_reducible refine Arith.bv64 ?_)
    | ((with_reducible refine Arith.i64 ?_ ?_); omega)
    | ((with_reducible refine Arith.u64 ?_ ?_); omega)
    | ((with_reducible refine Arith.u32 ?_ ?_); omega)
    | ((with_reducible refine Arith.u16 ?_ ?_); omega)
    | ((with_reducible refine Arith.u8 ?_ ?_); omega)
    | ((with_reducible refine Arith.i32 ?_ ?_); omega)
    | (with_reducible refine Arith.mk ?_)
    | (with_reducible refine Ends.mk ?_))
      all_goals first
        | (exfalso; omega)
        | (refine hX f (Nat.lt_succ_self f) _ _ ⟨1, rfl, .inr ⟨Nat.le_refl 1, rfl⟩, by omega, by omega⟩)
       
    · repeat' ((conv => whnf); first
    | ((with_reducible refine Look.mk ?_); refine ⟨_, rfl, ?_⟩)
    | ((with_reducible refine LookN.zeros ?_))
    | ((with_reducible refine LookN.bytes ?_ ?_); (simp; done))
    | ((with_reducible refine BytesW.bytes ?_))
    | ((with_reducible refine Look.byte ?_ ?_); omega)
    | ((with_reducible refine Look.setb ?_ ?_ ?_); exact bv8_bd _; omega)
    | ((with_reducible refine LookN.setb ?_ ?_ ?_); exact bv8_bd _; omega)
    | ((with_reducible refine LookN.mk ?_); refine ⟨_, rfl, ?_⟩)
    | ((with_reducible refine Need.mk ?_ ?_); first | ((with_reducible refine needB ?_); kernel_rfl) | with_reducible rfl | omega | (with_reducible refine ⟨rfl, ?_⟩; focus omega) | (simp only [ByteArray.size_append, size_lit, List.size_toArray, List.length_cons, List.length_nil]; omega) | exact rfl | trivial | exact Nat.le_of_ble_eq_true rfl | (exact ⟨rfl, by omega⟩) | (intro h; first | rfl | cases h) | (simp only [lenS_text, lenS_setN, lenS_zeros]; omega))
    | ((with_reducible refine BytesW.mk ?_); refine ⟨_, rfl, ?_⟩)
    | ((with_reducible refine WrT.same ?_ ?_); focus ((repeat ((conv => whnf); first | exact trivial | (apply And.intro; focus rfl))); done))
    | (with_reducible refine WrT.all ?_)
    | (with_reducible refine DropW.to [2] ?_)
    | (with_reducible refine need_app rfl rfl (by rw [lenS_i64, List.length_replicate]; omega) (by omega) ?_)
    | ((with_reducible refine Test.tmodEqT ?_ ?_ ?_); omega; focus first | omega | assumption)
    | ((with_reducible refine Test.tmodEqF ?_ ?_ ?_); omega; focus first | omega | assumption)
    | ((with_reducible refine Test.tmodNeT ?_ ?_ ?_); omega; focus first | omega | assumption)
    | ((with_reducible refine Test.tmodNeF ?_ ?_ ?_); omega; focus first | omega | assumption)
    | ((with_reducible refine Test.tmodEq ?_ (fun h => ?_) (fun h => ?_)); omega)
    | ((with_reducible refine Test.tmodNe ?_ (fun h => ?_) (fun h => ?_)); omega)
    | ((with_reducible refine Test.notT ?_ ?_); focus assumption)
    | ((with_reducible refine Test.notF ?_ ?_); focus assumption)
    | (with_reducible refine Test.notIe (fun h => ?_) (fun h => ?_))
    | (with_reducible refine Test.notD (fun h => ?_) (fun h => ?_))
    | ((with_reducible refine Test.empty (fun h => ?_) (fun h => ?_)))
    | (with_reducible refine Test.tt ?_)
    | (with_reducible refine Test.ff ?_)
    | ((with_reducible refine Test.dt ?_ ?_); omega)
    | ((with_reducible refine Test.df ?_ ?_); omega)
    | (with_reducible refine Test.d (fun h => ?_) (fun h => ?_))
    | ((with_reducible refine Test.ieT ?_ ?_); omega)
    | ((with_reducible refine Test.ieF ?_ ?_); omega)
    | ((with_reducible refine Test.neT ?_ ?_); omega)
    | ((with_reducible refine Test.neF ?_ ?_); omega)
    | (with_reducible refine Test.ie (fun h => ?_) (fun h => ?_))
    | (with_reducible refine Test.ne (fun h => ?_) (fun h => ?_))
    | ((with_reducible refine Test.b ?_ ?_); (focus first | assumption | (simp [negB]; done) | exact rfl))
    | ((with_reducible refine Test.nb ?_ ?_); (focus first | assumption | (simp [negB]; done) | exact rfl))
    | (with_reducible refine Test.notS (fun h => ?_) (fun h => ?_))
    | (with_reducible refine Test.mk (fun h => ?_) (fun h => ?_))
    | ((with_reducible refine Arith.tdiv ?_ ?_); omega)
    | (with_reducible refine Arith.bv8 ?_)
    | (with_reducible refine Arith.bv16 ?_)
    | (with_reducible refine Arith.bv32 ?_)
    | (with_reducible refine Arith.bv64 ?_)
    | ((with_reducible refine Arith.i64 ?_ ?_); omega)
    | ((with_reducible refine Arith.u64 ?_ ?_); omega)
    | ((with_reducible refine Arith.u32 ?_ ?_); omega)
    | ((with_reducible refine Arith.u16 ?_ ?_); omega)
    | ((with_reducible refine Arith.u8 ?_ ?_); omega)
    | ((with_reducible refine Arith.i32 ?_ ?_); omega)
    | (with_reducible refine Arith.mk ?_)
    | (with_reducible refine Ends.mk ?_))
      all_goals first
        | (have hk : k = n := by omega
           subst hk; exact ⟨rfl, rfl⟩)
        | (refine hX f (Nat.lt_succ_self f) _ _ ⟨k + 1, ?_, .inr ⟨by omega, ?_⟩, by omega, by omega⟩; rfl; show [_, Row.row true true (dropN (i64SV (List.replicate k (-1))) 0 ++ [SV.int .i64 (-1)])] = _; rw [dropN_zero, i64_snoc, ← List.replicate_succ']; first | done | rfl)
       
set_option maxHeartbeats 2000000 in
theorem rmay_det (s : LS) (L C : Int) : Det G Try.prog 59 [.o (.ptr 0 0), .o (.int .i64 L), .o (.int .i64 C)] (refM s) (vB (decide (inN s.own.length L C))) (refM s) := by
  refine can_of_W known mix Try.func59 (by kernel_rfl) ok_ref18_Locks__may (Nat.le_of_ble_eq_true rfl) ?_
  repeat' ((conv => whnf); first
    | ((with_reducible refine Look.mk ?_); refine ⟨_, rfl, ?_⟩)
    | ((with_reducible refine LookN.zeros ?_))
    | ((with_reducible refine LookN.bytes ?_ ?_); (simp; done))
    | ((with_reducible refine BytesW.bytes ?_))
    | ((with_reducible refine Look.byte ?_ ?_); omega)
    | ((with_reducible refine Look.setb ?_ ?_ ?_); exact bv8_bd _; omega)
    | ((with_reducible refine LookN.setb ?_ ?_ ?_); exact bv8_bd _; omega)
    | ((with_reducible refine LookN.mk ?_); refine ⟨_, rfl, ?_⟩)
    | ((with_reducible refine Need.mk ?_ ?_); first | ((with_reducible refine needB ?_); kernel_rfl) | with_reducible rfl | omega | (with_reducible refine ⟨rfl, ?_⟩; focus omega) | (simp only [ByteArray.size_append, size_lit, List.size_toArray, List.length_cons, List.length_nil]; omega) | exact rfl | trivial | exact Nat.le_of_ble_eq_true rfl | (exact ⟨rfl, by omega⟩) | (intro h; first | rfl | cases h) | (simp only [lenS_text, lenS_setN, lenS_zeros]; omega))
    | ((with_reducible refine BytesW.mk ?_); refine ⟨_, rfl, ?_⟩)
    | ((with_reducible refine WrT.same ?_ ?_); focus ((repeat ((conv => whnf); first | exact trivial | (apply And.intro; focus rfl))); done))
    | (with_reducible refine WrT.all ?_)
    | (with_reducible refine DropW.keep ?_)
    | ((with_reducible refine Test.tmodEqT ?_ ?_ ?_); omega; focus first | omega | assumption)
    | ((with_reducible refine Test.tmodEqF ?_ ?_ ?_); omega; focus first | omega | assumption)
    | ((with_reducible refine Test.tmodNeT ?_ ?_ ?_); omega; focus first | omega | assumption)
    | ((with_reducible refine Test.tmodNeF ?_ ?_ ?_); omega; focus first | omega | assumption)
    | ((with_reducible refine Test.tmodEq ?_ (fun h => ?_) (fun h => ?_)); omega)
    | ((with_reducible refine Test.tmodNe ?_ (fun h => ?_) (fun h => ?_)); omega)
    | ((with_reducible refine Test.notT ?_ ?_); focus assumption)
    | ((with_reducible refine Test.notF ?_ ?_); focus assumption)
    | (with_reducible refine Test.notIe (fun h => ?_) (fun h => ?_))
    | (with_reducible refine Test.notD (fun h => ?_) (fun h => ?_))
    | ((with_reducible refine Test.empty (fun h => ?_) (fun h => ?_)))
    | (with_reducible refine Test.tt ?_)
    | (with_reducible refine Test.ff ?_)
    | ((with_reducible refine Test.dt ?_ ?_); omega)
    | ((with_reducible refine Test.df ?_ ?_); omega)
    | (with_reducible refine Test.d (fun h => ?_) (fun h => ?_))
    | ((with_reducible refine Test.ieT ?_ ?_); omega)
    | ((with_reducible refine Test.ieF ?_ ?_); omega)
    | ((with_reducible refine Test.neT ?_ ?_); omega)
    | ((with_reducible refine Test.neF ?_ ?_); omega)
    | (with_reducible refine Test.ie (fun h => ?_) (fun h => ?_))
    | (with_reducible refine Test.ne (fun h => ?_) (fun h => ?_))
    | ((with_reducible refine Test.b ?_ ?_); (focus first | assumption | (simp [negB]; done) | exact rfl))
    | ((with_reducible refine Test.nb ?_ ?_); (focus first | assumption | (simp [negB]; done) | exact rfl))
    | (with_reducible refine Test.notS (fun h => ?_) (fun h => ?_))
    | (with_reducible refine Test.mk (fun h => ?_) (fun h => ?_))
    | ((with_reducible refine Arith.tdiv ?_ ?_); omega)
    | (with_reducible refine Arith.bv8 ?_)
    | (with_reducible refine Arith.bv16 ?_)
    | (with_reducible refine Arith.bv32 ?_)
    | (with_reducible refine Arith.bv64 ?_)
    | ((with_reducible refine Arith.i64 ?_ ?_); omega)
    | ((with_reducible refine Arith.u64 ?_ ?_); omega)
    | ((with_reducible refine Arith.u32 ?_ ?_); omega)
    | ((with_reducible refine Arith.u16 ?_ ?_); omega)
    | ((with_reducible refine Arith.u8 ?_ ?_); omega)
    | ((with_reducible refine Arith.i32 ?_ ?_); omega)
    | (with_reducible refine Arith.mk ?_)
    | (with_reducible refine Ends.mk ?_))
  all_goals first | (refine ⟨?_, rfl⟩; rw [decide_eq_true ⟨by omega, by omega, by omega, by omega⟩]; done) | (refine ⟨?_, rfl⟩; rw [decide_eq_false (fun ⟨a, b, c, d⟩ => by omega)]; done) | (refine ⟨?_, rfl⟩; congr 3; rw [decide_eq_decide]; exact ⟨fun h => ⟨by omega, by omega, by omega, by omega⟩, fun ⟨a, b, c, d⟩ => by omega⟩)
theorem rmay_ok {s : LS} {L C : Int} (h : inN s.own.length L C) : Det G Try.prog 59 [.o (.ptr 0 0), .o (.int .i64 L), .o (.int .i64 C)] (refM s) (vB true) (refM s) := by
  have k := rmay_det (G := G) s L C; rw [decide_eq_true h] at k; exact k
theorem rmay_no {s : LS} {L C : Int} (h : ¬ inN s.own.length L C) : Det G Try.prog 59 [.o (.ptr 0 0), .o (.int .i64 L), .o (.int .i64 C)] (refM s) (vB false) (refM s) := by
  have k := rmay_det (G := G) s L C; rw [decide_eq_false h] at k; exact k
set_option maxHeartbeats 4000000 in
theorem rof_det {n : Nat} {s : LS} (hI : Inv n s) (hn : n ≤ 1024) (c : Nat) (hc : c < 8) : Det G Try.prog 26 [.o (.ptr 0 0), .o (.int .i64 c)] (refM s) (vI .i64 (s.of_ c)) (refM s) := by
  have hl := hI.len
  refine can_of_W known mix Try.func26 (by kernel_rfl) ok_ref18_Locks__Of (Nat.le_of_ble_eq_true rfl) ?_
  repeat' ((conv => whnf); first
    | ((with_reducible refine Look.mk ?_); refine ⟨_, rfl, ?_⟩)
    | ((with_reducible refine LookN.zeros ?_))
    | ((with_reducible refine LookN.bytes ?_ ?_); (simp; done))
    | ((with_reducible refine BytesW.bytes ?_))
    | ((with_reducible refine Look.byte ?_ ?_); omega)
    | ((with_reducible refine Look.setb ?_ ?_ ?_); exact bv8_bd _; omega)
    | ((with_reducible refine LookN.setb ?_ ?_ ?_); exact bv8_bd _; omega)
    | ((with_reducible refine LookN.mk ?_); refine ⟨_, rfl, ?_⟩)
    | ((with_reducible refine Need.mk ?_ ?_); first | ((with_reducible refine needB ?_); kernel_rfl) | with_reducible rfl | omega | (with_reducible refine ⟨rfl, ?_⟩; focus omega) | (simp only [ByteArray.size_append, size_lit, List.size_toArray, List.length_cons, List.length_nil]; omega) | exact rfl | trivial | exact Nat.le_of_ble_eq_true rfl | (exact ⟨rfl, by omega⟩) | (intro h; first | rfl | cases h) | (simp only [lenS_text, lenS_setN, lenS_zeros]; omega))
    | ((with_reducible refine BytesW.mk ?_); refine ⟨_, rfl, ?_⟩)
    | ((with_reducible refine WrT.same ?_ ?_); focus ((repeat ((conv => whnf); first | exact trivial | (apply And.intro; focus rfl))); done))
    | (with_reducible refine WrT.all ?_)
    | (with_reducible refine DropW.to [4] ?_)
    | (refine Look.i64x (i : Int) ?_ ?_; (focus constructor <;> omega))
    | ((with_reducible refine Test.tmodEqT ?_ ?_ ?_); omega; focus first | omega | assumption)
    | ((with_reducible refine Test.tmodEqF ?_ ?_ ?_); omega; focus first | omega | assumption)
    | ((with_reducible refine Test.tmodNeT ?_ ?_ ?_); omega; focus first | omega | assumption)
    | ((with_reducible refine Test.tmodNeF ?_ ?_ ?_); omega; focus first | omega | assumption)
    | ((with_reducible refine Test.tmodEq ?_ (fun h => ?_) (fun h => ?_)); omega)
    | ((with_reducible refine Test.tmodNe ?_ (fun h => ?_) (fun h => ?_)); omega)
    | ((with_reducible refine Test.notT ?_ ?_); focus assumption)
    | ((with_reducible refine Test.notF ?_ ?_); focus assumption)
    | (with_reducible refine Test.notIe (fun h => ?_) (fun h => ?_))
    | (with_reducible refine Test.notD (fun h => ?_) (fun h => ?_))
    | ((with_reducible refine Test.empty (fun h => ?_) (fun h => ?_)))
    | (with_reducible refine Test.tt ?_)
    | (with_reducible refine Test.ff ?_)
    | ((with_reducible refine Test.dt ?_ ?_); omega)
    | ((with_reducible refine Test.df ?_ ?_); omega)
    | (with_reducible refine Test.d (fun h => ?_) (fun h => ?_))
    | ((with_reducible refine Test.ieT ?_ ?_); omega)
    | ((with_reducible refine Test.ieF ?_ ?_); omega)
    | ((with_reducible refine Test.neT ?_ ?_); omega)
    | ((with_reducible refine Test.neF ?_ ?_); omega)
    | (with_reducible refine Test.ie (fun h => ?_) (fun h => ?_))
    | (with_reducible refine Test.ne (fun h => ?_) (fun h => ?_))
    | ((with_reducible refine Test.b ?_ ?_); (focus first | assumption | (simp [negB]; done) | exact rfl))
    | ((with_reducible refine Test.nb ?_ ?_); (focus first | assumption | (simp [negB]; done) | exact rfl))
    | (with_reducible refine Test.notS (fun h => ?_) (fun h => ?_))
    | (with_reducible refine Test.mk (fun h => ?_) (fun h => ?_))
    | ((with_reducible refine Arith.tdiv ?_ ?_); omega)
    | (with_reducible refine Arith.bv8 ?_)
    | (with_reducible refine Arith.bv16 ?_)
    | (with_reducible refine Arith.bv32 ?_)
    | (with_reducible refine Arith.bv64 ?_)
    | ((with_reducible refine Arith.i64 ?_ ?_); omega)
    | ((with_reducible refine Arith.u64 ?_ ?_); omega)
    | ((with_reducible refine Arith.u32 ?_ ?_); omega)
    | ((with_reducible refine Arith.u16 ?_ ?_); omega)
    | ((with_reducible refine Arith.u8 ?_ ?_); omega)
    | ((with_reducible refine Arith.i32 ?_ ?_); omega)
    | (with_reducible refine Arith.mk ?_)
    | (with_reducible refine Ends.mk ?_))
  refine LoopW.rule (fun f sl M => ∃ i : Nat, sl = [(0, vO (.ptr 0 0)), (1, vI .i64 c), (5, vI .i64 i)] ∧ M = refM s ∧ i ≤ s.own.length ∧ (∀ k, k < i → s.own.getD k (-1) ≠ c) ∧ s.own.length - i < f) ?_ (s.own.length + 1) ⟨0, rfl, rfl, by omega, fun k hk => absurd hk (by omega), by omega⟩
  rintro f sl M ⟨i, rfl, rfl, h1, h2, h3⟩ X hX
  cases f with
  | zero => omega
  | succ f =>
    repeat' ((conv => whnf); first
    | ((with_reducible refine Look.mk ?_); refine ⟨_, rfl, ?_⟩)
    | ((with_reducible refine LookN.zeros ?_))
    | ((with_reducible refine LookN.bytes ?_ ?_); (simp; done))
    | ((with_reducible refine BytesW.bytes ?_))
    | ((with_reducible refine Look.byte ?_ ?_); omega)
    | ((with_reducible refine Look.setb ?_ ?_ ?_); exact bv8_bd _; omega)
    | ((with_reducible refine LookN.setb ?_ ?_ ?_); exact bv8_bd _; omega)
    | ((with_reducible refine LookN.mk ?_); refine ⟨_, rfl, ?_⟩)
    | ((with_reducible refine Need.mk ?_ ?_); first | ((with_reducible refine needB ?_); kernel_rfl) | with_reducible rfl | omega | (with_reducible refine ⟨rfl, ?_⟩; focus omega) | (simp only [ByteArray.size_append, size_lit, List.size_toArray, List.length_cons, List.length_nil]; omega) | exact rfl | trivial | exact Nat.le_of_ble_eq_true rfl | (exact ⟨rfl, by omega⟩) | (intro h; first | rfl | cases h) | (simp only [lenS_text, lenS_setN, lenS_zeros]; omega))
    | ((with_reducible refine BytesW.mk ?_); refine ⟨_, rfl, ?_⟩)
    | ((with_reducible refine WrT.same ?_ ?_); focus ((repeat ((conv => whnf); first | exact trivial | (apply And.intro; focus rfl))); done))
    | (with_reducible refine WrT.all ?_)
    | (with_reducible refine DropW.to [4] ?_)
    | (refine Look.i64x (i : Int) ?_ ?_; (focus constructor <;> omega))
    | ((with_reducible refine Test.tmodEqT ?_ ?_ ?_); omega; focus first | omega | assumption)
    | ((with_reducible refine Test.tmodEqF ?_ ?_ ?_); omega; focus first | omega | assumption)
    | ((with_reducible refine Test.tmodNeT ?_ ?_ ?_); omega; focus first | omega | assumption)
    | ((with_reducible refine Test.tmodNeF ?_ ?_ ?_); omega; focus first | omega | assumption)
    | ((with_reducible refine Test.tmodEq ?_ (fun h => ?_) (fun h => ?_)); omega)
    | ((with_reducible refine Test.tmodNe ?_ (fun h => ?_) (fun h => ?_)); omega)
    | ((with_reducible refine Test.notT ?_ ?_); focus assumption)
    | ((with_reducible refine Test.notF ?_ ?_); focus assumption)
    | (with_reducible refine Test.notIe (fun h => ?_) (fun h => ?_))
    | (with_reducible refine Test.notD (fun h => ?_) (fun h => ?_))
    | ((with_reducible refine Test.empty (fun h => ?_) (fun h => ?_)))
    | (with_reducible refine Test.tt ?_)
    | (with_reducible refine Test.ff ?_)
    | ((with_reducible refine Test.dt ?_ ?_); omega)
    | ((with_reducible refine Test.df ?_ ?_); omega)
    | (with_reducible refine Test.d (fun h => ?_) (fun h => ?_))
    | ((with_reducible refine Test.ieT ?_ ?_); omega)
    | ((with_reducible refine Test.ieF ?_ ?_); omega)
    | ((with_reducible refine Test.neT ?_ ?_); omega)
    | ((with_reducible refine Test.neF ?_ ?_); omega)
    | (with_reducible refine Test.ie (fun h => ?_) (fun h => ?_))
    | (with_reducible refine Test.ne (fun h => ?_) (fun h => ?_))
    | ((with_reducible refine Test.b ?_ ?_); (focus first | assumption | (simp [negB]; done) | exact rfl))
    | ((with_reducible refine Test.nb ?_ ?_); (focus first | assumption | (simp [negB]; done) | exact rfl))
    | (with_reducible refine Test.notS (fun h => ?_) (fun h => ?_))
    | (with_reducible refine Test.mk (fun h => ?_) (fun h => ?_))
    | ((with_reducible refine Arith.tdiv ?_ ?_); omega)
    | (with_reducible refine Arith.bv8 ?_)
    | (with_reducible refine Arith.bv16 ?_)
    | (with_reducible refine Arith.bv32 ?_)
    | (with_reducible refine Arith.bv64 ?_)
    | ((with_reducible refine Arith.i64 ?_ ?_); omega)
    | ((with_reducible refine Arith.u64 ?_ ?_); omega)
    | ((with_reducible refine Arith.u32 ?_ ?_); omega)
    | ((with_reducible refine Arith.u16 ?_ ?_); omega)
    | ((with_reducible refine Arith.u8 ?_ ?_); omega)
    | ((with_reducible refine Arith.i32 ?_ ?_); omega)
    | (with_reducible refine Arith.mk ?_)
    | (with_reducible refine Ends.mk ?_))
    all_goals first
      | (refine hX f (Nat.lt_succ_self f) _ _ ⟨i + 1, ?_, ?_, by omega, ?_, by omega⟩; rfl; rfl; intro k hk; rcases (by omega : k < i ∨ k = i) with h' | h'; exact h2 k h'; subst h'; exact h)
      | (refine ⟨?_, rfl⟩; clear hX; have hh : s.own.getD i (-1) = c := h; have h0 := ((hI.has c hc).resolve_left (fun h => h.2 i (by omega) hh)).2.2.2 i (by omega) hh; rw [← h0]; done)
      | (refine ⟨?_, rfl⟩; clear hX; have h0 := ((hI.has c hc).resolve_right (fun h => h2 (s.of_ c).toNat (by omega) h.2.2.1)).1; rw [h0]; done)
     
end G5
end Go.Proofs.Ytmdfkggflainbaa.VM
