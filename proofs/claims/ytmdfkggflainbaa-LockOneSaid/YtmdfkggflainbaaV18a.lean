/- law 18 by the evaluator: what the document fixes. -/
import Derived.Test.YtmdfkggflainbaaBase
namespace Go.Proofs.Ytmdfkggflainbaa.VM
namespace G5w
open Go.RowKit
set_option linter.unusedVariables false
set_option linter.unusedSimpArgs false
set_option maxRecDepth 100000
variable {G : Ground}
def vf_lock_New : VFn := ⟨(.seq (.reg [
    ⟨(some 2), .mv (.c (.p (.o (.nilp)))), none, 0⟩,
    ⟨(some 3), .mv (.c (.p (.o (.int .i64 0)))), none, 0⟩] 0 none) (.seq (.seq (.reg [
    ⟨(some 6), .mv (.t 0), none, 0⟩,
    ⟨(some 7), .bin .lss (.t 6) (.c (.p (.o (.int .i64 1)))), none, 0⟩,
    ⟨(some 8), .mv (.t 7), none, 0⟩,
    ⟨(some 9), .mv (.t 0), (some (8, false)), 0⟩,
    ⟨(some 10), .bin .gtr (.t 9) (.c (.p (.o (.int .i64 1024)))), (some (8, false)), 0⟩,
    ⟨(some 11), .pick (.t 8) (.c (.p (.o (.bool true)))) (.t 10), none, 0⟩] 0 none) (.cond (.t 11) (.seq (.reg [
    ⟨(some 2), .mv (.c (.p (.o (.nilp)))), none, 0⟩,
    ⟨(some 3), .mv (.c (.p (.o (.int .i64 2)))), none, 0⟩] 0 none) .ret) .skip)) (.seq (.reg [
    ⟨(some 12), .bsl 1 [.int .i64 0] [(0, 1, (.c (.p (.o (.int .i64 (-1))))))], none, 0⟩,
    ⟨(some 13), .mv (.t 0), none, 1⟩,
    ⟨(some 14), .call 54 [(.t 12), (.t 13)] 1, none, 1⟩,
    ⟨(some 15), .bld [.nils, .int .i64 0, .int .i64 0, .int .i64 0, .int .i64 0, .int .i64 0, .int .i64 0, .int .i64 0, .int .i64 0, .int .u64 0, .int .u64 0, .int .u64 0, .int .u64 0, .int .u64 0, .int .u64 0, .int .u64 0, .int .u64 0] [(0, 1, (.t 14))], none, 2⟩,
    ⟨(some 16), .box (.t 15), none, 2⟩,
    ⟨(some 4), .mv (.t 16), none, 3⟩] 3 none) (.seq (.seq (.reg [
    ⟨(some 17), .mv (.c (.p (.o (.int .i64 0)))), none, 0⟩] 0 none) (.block 0 (.loop (.seq (.reg [
    ⟨(some 18), .bin .lss (.t 17) (.c (.p (.o (.int .i64 8)))), none, 0⟩] 0 none) (.seq (.cond (.t 18) .skip (.exit 0)) (.seq (.block 1 (.seq (.reg [
    ⟨(some 19), .mv (.t 17), none, 0⟩,
    ⟨(some 5), .mv (.t 19), none, 0⟩] 0 none) (.reg [
    ⟨(some 20), .mv (.t 4), none, 0⟩,
    ⟨(some 21), .mv (.t 5), none, 0⟩,
    ⟨(some 22), .nilc (.t 20), none, 0⟩,
    ⟨(some 23), .fad 1 (.t 22), none, 0⟩,
    ⟨(some 24), .iaa 8 1 (.t 23) (.t 21), none, 0⟩,
    ⟨none, .st 1 (.t 24) (.c (.p (.o (.int .i64 (-1))))), none, 0⟩] 0 none))) (.reg [
    ⟨(some 25), .bin .add (.t 17) (.c (.p (.o (.int .i64 1)))), none, 0⟩,
    ⟨(some 17), .mv (.t 25), none, 0⟩] 0 none))))))) (.seq (.reg [
    ⟨(some 26), .mv (.t 4), none, 0⟩,
    ⟨(some 2), .mv (.t 26), none, 0⟩,
    ⟨(some 3), .mv (.c (.p (.o (.int .i64 0)))), none, 0⟩] 0 none) .ret))))),
  [.tmp 2, .tmp 3], 27, [0, 2, 3, 4, 5, 17]⟩
theorem ok_lock_New : cFn Try.prog eqsT newsT vf_lock_New.keep Try.f14 = some vf_lock_New := by kernel_rfl
def vf_lock_Locks__Free : VFn := ⟨(.seq (.reg [
    ⟨(some 6), .mv (.c (.p (.o (.int .i64 0)))), none, 0⟩] 0 none) (.seq (.reg [
    ⟨(some 8), .mv (.t 0), none, 0⟩,
    ⟨(some 9), .mv (.t 1), none, 0⟩,
    ⟨(some 10), .mv (.t 2), none, 0⟩,
    ⟨(some 11), .call 55 [(.t 8), (.t 9), (.t 10)] 0, none, 0⟩,
    ⟨(some 7), .mv (.t 11), none, 0⟩] 0 none) (.seq (.block 0 (.seq (.reg [
    ⟨(some 13), .mv (.t 7), none, 0⟩,
    ⟨(some 14), .bin .neq (.t 13) (.c (.p (.o (.int .i64 0)))), none, 0⟩,
    ⟨(some 12), .mv (.t 14), none, 0⟩] 0 none) (.cond (.t 12) (.seq (.reg [
    ⟨(some 15), .mv (.t 7), none, 0⟩,
    ⟨(some 6), .mv (.t 15), none, 0⟩] 0 none) .ret) (.seq (.reg [
    ⟨(some 17), .mv (.t 0), none, 0⟩,
    ⟨(some 18), .nilc (.t 17), none, 0⟩,
    ⟨(some 19), .fad 0 (.t 18), none, 0⟩,
    ⟨(some 20), .ld none (.t 19), none, 0⟩,
    ⟨(some 21), .mv (.t 1), none, 0⟩,
    ⟨(some 22), .iad 1 (.t 20) (.t 21), none, 0⟩,
    ⟨(some 23), .ld none (.t 22), none, 0⟩,
    ⟨(some 24), .mv (.t 2), none, 0⟩,
    ⟨(some 25), .bin .neq (.t 23) (.t 24), none, 0⟩,
    ⟨(some 16), .mv (.t 25), none, 0⟩] 0 none) (.cond (.t 16) (.seq (.reg [
    ⟨(some 6), .mv (.c (.p (.o (.int .i64 3)))), none, 0⟩] 0 none) .ret) .skip))))) (.seq (.reg [
    ⟨(some 26), .mv (.t 0), none, 0⟩,
    ⟨(some 27), .nilc (.t 26), none, 0⟩,
    ⟨(some 28), .fad 0 (.t 27), none, 0⟩,
    ⟨(some 29), .ld none (.t 28), none, 0⟩,
    ⟨(some 30), .mv (.t 1), none, 0⟩,
    ⟨(some 31), .mv (.t 0), none, 0⟩,
    ⟨(some 32), .mv (.t 2), none, 0⟩,
    ⟨(some 33), .iad 1 (.t 29) (.t 30), none, 0⟩,
    ⟨none, .st 1 (.t 33) (.c (.p (.o (.int .i64 (-1))))), none, 0⟩,
    ⟨(some 34), .nilc (.t 31), none, 0⟩,
    ⟨(some 35), .fad 1 (.t 34), none, 0⟩,
    ⟨(some 36), .iaa 8 1 (.t 35) (.t 32), none, 0⟩,
    ⟨none, .st 1 (.t 36) (.c (.p (.o (.int .i64 (-1))))), none, 0⟩] 0 (some [(0, 4), (1, 4), (2, 4), (3, 4), (0, 5), (1, 5), (2, 5), (3, 5), (4, 5), (0, 6), (1, 6), (2, 6), (3, 6), (4, 6), (5, 6), (5, 7), (6, 7), (5, 8), (6, 8), (0, 9), (1, 9), (2, 9), (3, 9), (4, 9), (6, 9), (7, 9), (8, 9), (0, 10), (1, 10), (2, 10), (3, 10), (4, 10), (6, 10), (7, 10), (8, 10)])) (.seq (.reg [
    ⟨(some 6), .mv (.c (.p (.o (.int .i64 0)))), none, 0⟩] 0 none) .ret))))),
  [.tmp 6], 37, [0, 1, 2, 6, 7]⟩
theorem ok_lock_Locks__Free : cFn Try.prog eqsT newsT vf_lock_Locks__Free.keep Try.f15 = some vf_lock_Locks__Free := by kernel_rfl
def vf_lock_Locks__Try : VFn := ⟨(.seq (.reg [
    ⟨(some 6), .mv (.c (.p (.o (.int .u8 0)))), none, 0⟩,
    ⟨(some 7), .mv (.c (.p (.o (.int .i64 0)))), none, 0⟩] 0 none) (.seq (.reg [
    ⟨(some 9), .mv (.t 0), none, 0⟩,
    ⟨(some 10), .mv (.t 1), none, 0⟩,
    ⟨(some 11), .mv (.t 2), none, 0⟩,
    ⟨(some 12), .call 55 [(.t 9), (.t 10), (.t 11)] 0, none, 0⟩,
    ⟨(some 8), .mv (.t 12), none, 0⟩] 0 none) (.seq (.block 0 (.seq (.reg [
    ⟨(some 14), .mv (.t 8), none, 0⟩,
    ⟨(some 15), .bin .neq (.t 14) (.c (.p (.o (.int .i64 0)))), none, 0⟩,
    ⟨(some 13), .mv (.t 15), none, 0⟩] 0 none) (.cond (.t 13) (.seq (.reg [
    ⟨(some 16), .mv (.t 8), none, 0⟩,
    ⟨(some 6), .mv (.c (.p (.o (.int .u8 0)))), none, 0⟩,
    ⟨(some 7), .mv (.t 16), none, 0⟩] 0 none) .ret) (.seq (.reg [
    ⟨(some 18), .mv (.t 0), none, 0⟩,
    ⟨(some 19), .nilc (.t 18), none, 0⟩,
    ⟨(some 20), .fad 0 (.t 19), none, 0⟩,
    ⟨(some 21), .ld none (.t 20), none, 0⟩,
    ⟨(some 22), .mv (.t 1), none, 0⟩,
    ⟨(some 23), .iad 1 (.t 21) (.t 22), none, 0⟩,
    ⟨(some 24), .ld none (.t 23), none, 0⟩,
    ⟨(some 25), .mv (.t 2), none, 0⟩,
    ⟨(some 26), .bin .eql (.t 24) (.t 25), none, 0⟩,
    ⟨(some 17), .mv (.t 26), none, 0⟩] 0 none) (.cond (.t 17) (.seq (.reg [
    ⟨(some 6), .mv (.c (.p (.o (.int .u8 2)))), none, 0⟩,
    ⟨(some 7), .mv (.c (.p (.o (.int .i64 0)))), none, 0⟩] 0 none) .ret) (.seq (.reg [
    ⟨(some 28), .mv (.t 0), none, 0⟩,
    ⟨(some 29), .mv (.t 2), none, 0⟩,
    ⟨(some 30), .nilc (.t 28), none, 0⟩,
    ⟨(some 31), .fad 1 (.t 30), none, 0⟩,
    ⟨(some 32), .iaa 8 1 (.t 31) (.t 29), none, 0⟩,
    ⟨(some 33), .ld none (.t 32), none, 0⟩,
    ⟨(some 34), .bin .geq (.t 33) (.c (.p (.o (.int .i64 0)))), none, 0⟩,
    ⟨(some 27), .mv (.t 34), none, 0⟩] 0 none) (.cond (.t 27) (.seq (.reg [
    ⟨(some 6), .mv (.c (.p (.o (.int .u8 0)))), none, 0⟩,
    ⟨(some 7), .mv (.c (.p (.o (.int .i64 3)))), none, 0⟩] 0 none) .ret) (.seq (.reg [
    ⟨(some 36), .mv (.t 0), none, 0⟩,
    ⟨(some 37), .nilc (.t 36), none, 0⟩,
    ⟨(some 38), .fad 0 (.t 37), none, 0⟩,
    ⟨(some 39), .ld none (.t 38), none, 0⟩,
    ⟨(some 40), .mv (.t 1), none, 0⟩,
    ⟨(some 41), .iad 1 (.t 39) (.t 40), none, 0⟩,
    ⟨(some 42), .ld none (.t 41), none, 0⟩,
    ⟨(some 43), .bin .geq (.t 42) (.c (.p (.o (.int .i64 0)))), none, 0⟩,
    ⟨(some 35), .mv (.t 43), none, 0⟩] 0 none) (.cond (.t 35) (.seq (.reg [
    ⟨(some 44), .mv (.t 0), none, 0⟩,
    ⟨(some 45), .mv (.t 2), none, 0⟩,
    ⟨(some 46), .nilc (.t 44), none, 0⟩,
    ⟨(some 47), .fad 9 (.t 46), none, 0⟩,
    ⟨(some 48), .iaa 8 1 (.t 47) (.t 45), none, 0⟩,
    ⟨(some 49), .ld none (.t 48), none, 0⟩,
    ⟨(some 50), .bin .add (.t 49) (.c (.p (.o (.int .u64 1)))), none, 0⟩,
    ⟨(some 51), .nilc (.t 44), none, 0⟩,
    ⟨(some 52), .fad 9 (.t 51), none, 0⟩,
    ⟨(some 53), .iaa 8 1 (.t 52) (.t 45), none, 0⟩,
    ⟨none, .st 1 (.t 53) (.t 50), none, 0⟩] 0 (some [(0, 1), (1, 2), (1, 3), (1, 7), (2, 7), (3, 7), (4, 7), (5, 7), (6, 7), (1, 8), (2, 8), (3, 8), (4, 8), (5, 8), (6, 8)])) (.seq (.reg [
    ⟨(some 6), .mv (.c (.p (.o (.int .u8 0)))), none, 0⟩,
    ⟨(some 7), .mv (.c (.p (.o (.int .i64 0)))), none, 0⟩] 0 none) .ret)) .skip))))))))) (.seq (.reg [
    ⟨(some 54), .mv (.t 0), none, 0⟩,
    ⟨(some 55), .nilc (.t 54), none, 0⟩,
    ⟨(some 56), .fad 0 (.t 55), none, 0⟩,
    ⟨(some 57), .ld none (.t 56), none, 0⟩,
    ⟨(some 58), .mv (.t 1), none, 0⟩,
    ⟨(some 59), .mv (.t 0), none, 0⟩,
    ⟨(some 60), .mv (.t 2), none, 0⟩,
    ⟨(some 61), .mv (.t 2), none, 0⟩,
    ⟨(some 62), .mv (.t 1), none, 0⟩,
    ⟨(some 63), .iad 1 (.t 57) (.t 58), none, 0⟩,
    ⟨none, .st 1 (.t 63) (.t 61), none, 0⟩,
    ⟨(some 64), .nilc (.t 59), none, 0⟩,
    ⟨(some 65), .fad 1 (.t 64), none, 0⟩,
    ⟨(some 66), .iaa 8 1 (.t 65) (.t 60), none, 0⟩,
    ⟨none, .st 1 (.t 66) (.t 62), none, 0⟩] 0 (some [(0, 4), (1, 4), (2, 4), (3, 4), (0, 5), (1, 5), (2, 5), (3, 5), (4, 5), (0, 6), (1, 6), (2, 6), (3, 6), (4, 6), (5, 6), (0, 7), (1, 7), (2, 7), (3, 7), (4, 7), (5, 7), (6, 7), (0, 8), (1, 8), (2, 8), (3, 8), (4, 8), (5, 8), (6, 8), (7, 8), (5, 9), (6, 9), (8, 9), (5, 10), (6, 10), (8, 10), (0, 11), (1, 11), (2, 11), (3, 11), (4, 11), (6, 11), (7, 11), (8, 11), (9, 11), (10, 11), (0, 12), (1, 12), (2, 12), (3, 12), (4, 12), (6, 12), (7, 12), (8, 12), (9, 12), (10, 12)])) (.seq (.reg [
    ⟨(some 6), .mv (.c (.p (.o (.int .u8 1)))), none, 0⟩,
    ⟨(some 7), .mv (.c (.p (.o (.int .i64 0)))), none, 0⟩] 0 none) .ret))))),
  [.tmp 6, .tmp 7], 67, [0, 1, 2, 6, 7, 8]⟩
theorem ok_lock_Locks__Try : cFn Try.prog eqsT newsT vf_lock_Locks__Try.keep Try.f16 = some vf_lock_Locks__Try := by kernel_rfl
def vf_lock_Locks__may : VFn := ⟨(.seq (.reg [
    ⟨(some 6), .mv (.c (.p (.o (.int .i64 0)))), none, 0⟩] 0 none) (.seq (.block 0 (.seq (.reg [
    ⟨(some 8), .mv (.t 0), none, 0⟩,
    ⟨(some 9), .eq (.ref 0) false (.t 8) (.c (.p (.o (.nilp)))), none, 0⟩,
    ⟨(some 10), .mv (.t 9), none, 0⟩,
    ⟨(some 11), .mv (.t 0), (some (10, false)), 0⟩,
    ⟨(some 12), .nilc (.t 11), (some (10, false)), 0⟩,
    ⟨(some 13), .fad 0 (.t 12), (some (10, false)), 0⟩,
    ⟨(some 14), .ld none (.t 13), (some (10, false)), 0⟩,
    ⟨(some 15), .eq (.ref 1) false (.t 14) (.c (.p (.o (.nils)))), (some (10, false)), 0⟩,
    ⟨(some 16), .pick (.t 10) (.c (.p (.o (.bool true)))) (.t 15), none, 0⟩,
    ⟨(some 7), .mv (.t 16), none, 0⟩] 0 none) (.cond (.t 7) (.seq (.reg [
    ⟨(some 6), .mv (.c (.p (.o (.int .i64 1)))), none, 0⟩] 0 none) .ret) (.seq (.seq (.reg [
    ⟨(some 18), .mv (.t 1), none, 0⟩,
    ⟨(some 19), .bin .lss (.t 18) (.c (.p (.o (.int .i64 0)))), none, 0⟩,
    ⟨(some 17), .mv (.t 19), none, 0⟩] 0 none) (.cond (.t 17) .skip (.seq (.reg [
    ⟨(some 20), .mv (.t 1), none, 0⟩,
    ⟨(some 21), .mv (.t 0), none, 0⟩,
    ⟨(some 22), .nilc (.t 21), none, 0⟩,
    ⟨(some 23), .fad 0 (.t 22), none, 0⟩,
    ⟨(some 24), .ld none (.t 23), none, 0⟩,
    ⟨(some 25), .len true (.t 24), none, 0⟩,
    ⟨(some 26), .bin .geq (.t 20) (.t 25), none, 0⟩,
    ⟨(some 17), .mv (.t 26), none, 0⟩] 0 none) (.cond (.t 17) .skip (.seq (.reg [
    ⟨(some 27), .mv (.t 2), none, 0⟩,
    ⟨(some 28), .bin .lss (.t 27) (.c (.p (.o (.int .i64 0)))), none, 0⟩,
    ⟨(some 17), .mv (.t 28), none, 0⟩] 0 none) (.cond (.t 17) .skip (.reg [
    ⟨(some 29), .mv (.t 2), none, 0⟩,
    ⟨(some 30), .bin .geq (.t 29) (.c (.p (.o (.int .i64 8)))), none, 0⟩,
    ⟨(some 17), .mv (.t 30), none, 0⟩] 0 none))))))) (.cond (.t 17) (.seq (.reg [
    ⟨(some 6), .mv (.c (.p (.o (.int .i64 2)))), none, 0⟩] 0 none) .ret) .skip))))) (.seq (.reg [
    ⟨(some 6), .mv (.c (.p (.o (.int .i64 0)))), none, 0⟩] 0 none) .ret))),
  [.tmp 6], 31, [0, 1, 2, 6]⟩
theorem ok_lock_Locks__may : cFn Try.prog eqsT newsT vf_lock_Locks__may.keep Try.f55 = some vf_lock_Locks__may := by kernel_rfl
def vf_lock_Locks__Spins : VFn := ⟨(.seq (.reg [
    ⟨(some 4), .mv (.c (.p (.o (.int .u64 0)))), none, 0⟩] 0 none) (.seq (.seq (.reg [
    ⟨(some 5), .mv (.t 0), none, 0⟩,
    ⟨(some 6), .mv (.t 1), none, 0⟩,
    ⟨(some 7), .call 55 [(.t 5), (.c (.p (.o (.int .i64 0)))), (.t 6)] 0, none, 0⟩,
    ⟨(some 8), .bin .neq (.t 7) (.c (.p (.o (.int .i64 0)))), none, 0⟩] 0 none) (.cond (.t 8) (.seq (.reg [
    ⟨(some 4), .mv (.c (.p (.o (.int .u64 0)))), none, 0⟩] 0 none) .ret) .skip)) (.seq (.reg [
    ⟨(some 9), .mv (.t 0), none, 0⟩,
    ⟨(some 10), .mv (.t 1), none, 0⟩,
    ⟨(some 11), .nilc (.t 9), none, 0⟩,
    ⟨(some 12), .fad 9 (.t 11), none, 0⟩,
    ⟨(some 13), .iaa 8 1 (.t 12) (.t 10), none, 0⟩,
    ⟨(some 14), .ld none (.t 13), none, 0⟩,
    ⟨(some 4), .mv (.t 14), none, 0⟩] 0 none) .ret))),
  [.tmp 4], 15, [0, 1, 4]⟩
theorem ok_lock_Locks__Spins : cFn Try.prog eqsT newsT vf_lock_Locks__Spins.keep Try.f27 = some vf_lock_Locks__Spins := by kernel_rfl
def vf_lock_NewWaits_string_ : VFn := ⟨(.seq (.reg [
    ⟨(some 2), .mv (.c (.p (.o (.nilp)))), none, 0⟩,
    ⟨(some 3), .mv (.c (.p (.o (.int .i64 0)))), none, 0⟩] 0 none) (.seq (.seq (.reg [
    ⟨(some 4), .mv (.t 0), none, 0⟩,
    ⟨(some 5), .bin .lss (.t 4) (.c (.p (.o (.int .i64 0)))), none, 0⟩] 0 none) (.cond (.t 5) (.seq (.reg [
    ⟨(some 2), .mv (.c (.p (.o (.nilp)))), none, 0⟩,
    ⟨(some 3), .mv (.c (.p (.o (.int .i64 2)))), none, 0⟩] 0 none) .ret) .skip)) (.seq (.reg [
    ⟨(some 6), .mv (.t 0), none, 0⟩,
    ⟨(some 7), .mkm true, none, 0⟩,
    ⟨(some 8), .mkm false, none, 1⟩,
    ⟨(some 9), .bld [.int .i64 0, .nilm, .nilm] [(0, 1, (.t 6)), (1, 1, (.t 7)), (2, 1, (.t 8))], none, 2⟩,
    ⟨(some 10), .box (.t 9), none, 2⟩,
    ⟨(some 2), .mv (.t 10), none, 3⟩,
    ⟨(some 3), .mv (.c (.p (.o (.int .i64 0)))), none, 3⟩] 3 none) .ret))),
  [.tmp 2, .tmp 3], 11, [0, 2, 3]⟩
theorem ok_lock_NewWaits_string_ : cFn Try.prog eqsT newsT vf_lock_NewWaits_string_.keep Try.f51 = some vf_lock_NewWaits_string_ := by kernel_rfl
def vf_lock_Waits_string___Sleep : VFn := ⟨(.seq (.reg [
    ⟨(some 6), .mv (.c (.p (.o (.int .i64 0)))), none, 0⟩] 0 none) (.seq (.seq (.reg [
    ⟨(some 9), .mv (.t 0), none, 0⟩,
    ⟨(some 10), .eq (.ref 0) false (.t 9) (.c (.p (.o (.nilp)))), none, 0⟩,
    ⟨(some 11), .mv (.t 10), none, 0⟩,
    ⟨(some 12), .mv (.t 0), (some (11, false)), 0⟩,
    ⟨(some 13), .nilc (.t 12), (some (11, false)), 0⟩,
    ⟨(some 14), .fad 1 (.t 13), (some (11, false)), 0⟩,
    ⟨(some 15), .ld none (.t 14), (some (11, false)), 0⟩,
    ⟨(some 16), .eq (.ref 3) false (.t 15) (.c (.p (.o (.nilm)))), (some (11, false)), 0⟩,
    ⟨(some 17), .pick (.t 11) (.c (.p (.o (.bool true)))) (.t 16), none, 0⟩] 0 none) (.cond (.t 17) (.seq (.reg [
    ⟨(some 6), .mv (.c (.p (.o (.int .i64 1)))), none, 0⟩] 0 none) .ret) .skip)) (.seq (.reg [
    ⟨(some 19), .mv (.t 0), none, 0⟩,
    ⟨(some 20), .nilc (.t 19), none, 0⟩,
    ⟨(some 21), .fad 2 (.t 20), none, 0⟩,
    ⟨(some 22), .ld none (.t 21), none, 0⟩,
    ⟨(some 23), .mv (.t 2), none, 0⟩,
    ⟨(some 24), .mget false [.int .u64] (.o (.str ⟨#[]⟩)) true (.t 22) (.t 23), none, 0⟩,
    ⟨(some 18), .mv (.t 24), none, 0⟩,
    ⟨(some 25), .ext 0 (.t 18), none, 0⟩,
    ⟨(some 26), .ext 1 (.t 18), none, 0⟩,
    ⟨(some 7), .mv (.t 25), none, 0⟩,
    ⟨(some 8), .mv (.t 26), none, 0⟩] 0 none) (.seq (.block 0 (.seq (.reg [
    ⟨(some 28), .mv (.t 8), none, 0⟩,
    ⟨(some 27), .mv (.t 28), none, 0⟩] 0 none) (.cond (.t 27) (.seq (.reg [
    ⟨(some 6), .mv (.c (.p (.o (.int .i64 7)))), none, 0⟩] 0 none) .ret) (.seq (.reg [
    ⟨(some 30), .mv (.t 0), none, 0⟩,
    ⟨(some 31), .nilc (.t 30), none, 0⟩,
    ⟨(some 32), .fad 2 (.t 31), none, 0⟩,
    ⟨(some 33), .ld none (.t 32), none, 0⟩,
    ⟨(some 34), .mlen (.t 33), none, 0⟩,
    ⟨(some 35), .mv (.t 0), none, 0⟩,
    ⟨(some 36), .nilc (.t 35), none, 0⟩,
    ⟨(some 37), .fad 0 (.t 36), none, 0⟩,
    ⟨(some 38), .ld none (.t 37), none, 0⟩,
    ⟨(some 39), .bin .geq (.t 34) (.t 38), none, 0⟩,
    ⟨(some 29), .mv (.t 39), none, 0⟩] 0 (some [(0, 5), (1, 5), (2, 5), (3, 5), (4, 5), (0, 6), (1, 6), (2, 6), (3, 6), (4, 6), (0, 7), (1, 7), (2, 7), (3, 7), (4, 7), (0, 8), (1, 8), (2, 8), (3, 8), (4, 8)])) (.cond (.t 29) (.seq (.reg [
    ⟨(some 6), .mv (.c (.p (.o (.int .i64 6)))), none, 0⟩] 0 none) .ret) .skip))))) (.seq (.reg [
    ⟨(some 40), .mv (.t 0), none, 0⟩,
    ⟨(some 41), .nilc (.t 40), none, 0⟩,
    ⟨(some 42), .fad 1 (.t 41), none, 0⟩,
    ⟨(some 43), .ld none (.t 42), none, 0⟩,
    ⟨(some 44), .mv (.t 1), none, 0⟩,
    ⟨(some 45), .mv (.t 0), none, 0⟩,
    ⟨(some 46), .nilc (.t 45), none, 0⟩,
    ⟨(some 47), .fad 1 (.t 46), none, 0⟩,
    ⟨(some 48), .ld none (.t 47), none, 0⟩,
    ⟨(some 49), .mv (.t 1), none, 0⟩,
    ⟨(some 50), .mget false [.str] (.o (.nils)) false (.t 48) (.t 49), none, 0⟩,
    ⟨(some 51), .mv (.t 2), none, 0⟩,
    ⟨(some 52), .bsl 1 [.int .u64 0] [(0, 1, (.t 51))], none, 0⟩,
    ⟨(some 53), .app 1 8 (.t 50) (.t 52), none, 1⟩,
    ⟨none, .mset false [.str] (.t 43) (.t 44) (.t 53), none, 2⟩] 2 (some [(0, 4), (1, 4), (2, 4), (3, 4), (0, 5), (1, 5), (2, 5), (3, 5), (4, 5), (0, 6), (1, 6), (2, 6), (3, 6), (4, 6), (0, 7), (1, 7), (2, 7), (3, 7), (4, 7), (0, 8), (1, 8), (2, 8), (3, 8), (4, 8), (0, 9), (1, 9), (2, 9), (3, 9), (4, 9), (5, 9), (6, 9), (7, 9), (8, 9), (0, 10), (1, 10), (2, 10), (3, 10), (4, 10), (0, 11), (1, 11), (2, 11), (3, 11), (4, 11), (5, 11), (6, 11), (7, 11), (8, 11), (9, 11), (10, 11), (0, 12), (1, 12), (2, 12), (3, 12), (4, 12), (5, 12), (6, 12), (7, 12), (8, 12), (9, 12), (10, 12), (0, 13), (1, 13), (2, 13), (3, 13), (4, 13)])) (.seq (.reg [
    ⟨(some 54), .mv (.t 0), none, 0⟩,
    ⟨(some 55), .nilc (.t 54), none, 0⟩,
    ⟨(some 56), .fad 2 (.t 55), none, 0⟩,
    ⟨(some 57), .ld none (.t 56), none, 0⟩,
    ⟨(some 58), .mv (.t 2), none, 0⟩,
    ⟨(some 59), .mv (.t 1), none, 0⟩,
    ⟨none, .mset false [.int .u64] (.t 57) (.t 58) (.t 59), none, 0⟩] 0 none) (.seq (.reg [
    ⟨(some 6), .mv (.c (.p (.o (.int .i64 0)))), none, 0⟩] 0 none) .ret))))))),
  [.tmp 6], 60, [0, 1, 2, 6, 8]⟩
theorem ok_lock_Waits_string___Sleep : cFn Try.prog eqsT newsT vf_lock_Waits_string___Sleep.keep Try.f52 = some vf_lock_Waits_string___Sleep := by kernel_rfl
def vf_lock_Waits_string___Wake : VFn := ⟨(.seq (.reg [
    ⟨(some 6), .mv (.c (.p (.o (.nils)))), none, 0⟩] 0 none) (.seq (.seq (.reg [
    ⟨(some 9), .mv (.t 0), none, 0⟩,
    ⟨(some 10), .eq (.ref 0) false (.t 9) (.c (.p (.o (.nilp)))), none, 0⟩,
    ⟨(some 11), .mv (.t 10), none, 0⟩,
    ⟨(some 12), .mv (.t 0), (some (11, false)), 0⟩,
    ⟨(some 13), .nilc (.t 12), (some (11, false)), 0⟩,
    ⟨(some 14), .fad 1 (.t 13), (some (11, false)), 0⟩,
    ⟨(some 15), .ld none (.t 14), (some (11, false)), 0⟩,
    ⟨(some 16), .eq (.ref 3) false (.t 15) (.c (.p (.o (.nilm)))), (some (11, false)), 0⟩,
    ⟨(some 17), .pick (.t 11) (.c (.p (.o (.bool true)))) (.t 16), none, 0⟩] 0 none) (.cond (.t 17) (.seq (.reg [
    ⟨(some 6), .mv (.c (.p (.o (.nils)))), none, 0⟩] 0 none) .ret) .skip)) (.seq (.reg [
    ⟨(some 18), .mv (.t 0), none, 0⟩,
    ⟨(some 19), .nilc (.t 18), none, 0⟩,
    ⟨(some 20), .fad 1 (.t 19), none, 0⟩,
    ⟨(some 21), .ld none (.t 20), none, 0⟩,
    ⟨(some 22), .mv (.t 1), none, 0⟩,
    ⟨(some 23), .mget false [.str] (.o (.nils)) false (.t 21) (.t 22), none, 0⟩,
    ⟨(some 7), .mv (.t 23), none, 0⟩] 0 none) (.seq (.reg [
    ⟨(some 24), .mv (.t 2), none, 0⟩,
    ⟨(some 25), .mnx true (.t 24) (.c (.p (.o (.int .i64 0)))), none, 0⟩,
    ⟨(some 26), .mv (.t 7), none, 0⟩,
    ⟨(some 27), .len true (.t 26), none, 0⟩,
    ⟨(some 28), .mnx false (.t 25) (.t 27), none, 0⟩,
    ⟨(some 2), .mv (.t 28), none, 0⟩] 0 none) (.seq (.reg [
    ⟨(some 29), .mv (.t 7), none, 0⟩,
    ⟨(some 30), .mv (.t 2), none, 0⟩,
    ⟨(some 31), .sll 1 (.t 29) none (some (.t 30)), none, 0⟩,
    ⟨(some 32), .call 56 [(.t 31)] 1, none, 0⟩,
    ⟨(some 8), .mv (.t 32), none, 1⟩] 1 none) (.seq (.reg [
    ⟨(some 33), .mv (.t 0), none, 0⟩,
    ⟨(some 34), .mv (.t 8), none, 0⟩,
    ⟨(some 35), .call 72 [(.t 33), (.t 34)] 2, none, 0⟩] 2 none) (.seq (.reg [
    ⟨(some 36), .mv (.t 8), none, 0⟩,
    ⟨(some 6), .mv (.t 36), none, 0⟩] 0 none) .ret))))))),
  [.tmp 6], 37, [0, 1, 2, 6, 7, 8]⟩
theorem ok_lock_Waits_string___Wake : cFn Try.prog eqsT newsT vf_lock_Waits_string___Wake.keep Try.f53 = some vf_lock_Waits_string___Wake := by kernel_rfl
def vf_lock_Waits_string___Leave : VFn := ⟨(.seq (.reg [
    ⟨(some 4), .mv (.c (.p (.o (.int .i64 0)))), none, 0⟩] 0 none) (.seq (.seq (.reg [
    ⟨(some 9), .mv (.t 0), none, 0⟩,
    ⟨(some 10), .eq (.ref 0) false (.t 9) (.c (.p (.o (.nilp)))), none, 0⟩] 0 none) (.cond (.t 10) (.seq (.reg [
    ⟨(some 4), .mv (.c (.p (.o (.int .i64 0)))), none, 0⟩] 0 none) .ret) .skip)) (.seq (.seq (.reg [
    ⟨(some 11), .mv (.t 1), none, 0⟩,
    ⟨(some 12), .len true (.t 11), none, 0⟩,
    ⟨(some 13), .mv (.c (.p (.o (.int .i64 0)))), none, 0⟩] 0 none) (.block 0 (.loop (.seq (.reg [
    ⟨(some 14), .bin .lss (.t 13) (.t 12), none, 0⟩] 0 none) (.seq (.cond (.t 14) .skip (.exit 0)) (.seq (.block 1 (.seq (.reg [
    ⟨(some 15), .iad 1 (.t 11) (.t 13), none, 0⟩,
    ⟨(some 16), .ld none (.t 15), none, 0⟩,
    ⟨(some 6), .new [.int .u64 0], none, 0⟩,
    ⟨none, .st 1 (.t 6) (.t 16), none, 1⟩] 1 none) (.seq (.reg [
    ⟨(some 18), .mv (.t 0), none, 0⟩,
    ⟨(some 19), .nilc (.t 18), none, 0⟩,
    ⟨(some 20), .fad 2 (.t 19), none, 0⟩,
    ⟨(some 21), .ld none (.t 20), none, 0⟩,
    ⟨(some 22), .ld none (.t 6), none, 0⟩,
    ⟨(some 23), .mget false [.int .u64] (.o (.str ⟨#[]⟩)) true (.t 21) (.t 22), none, 0⟩,
    ⟨(some 17), .mv (.t 23), none, 0⟩,
    ⟨(some 24), .ext 0 (.t 17), none, 0⟩,
    ⟨(some 25), .ext 1 (.t 17), none, 0⟩,
    ⟨(some 7), .mv (.t 24), none, 0⟩,
    ⟨(some 8), .mv (.t 25), none, 0⟩] 0 (some [(0, 4), (1, 4), (2, 4), (3, 4), (7, 8), (8, 9)])) (.seq (.seq (.reg [
    ⟨(some 26), .mv (.t 8), none, 0⟩,
    ⟨(some 27), .un .not (.t 26), none, 0⟩] 0 none) (.cond (.t 27) (.exit 1) .skip)) (.seq (.reg [
    ⟨(some 28), .mv (.t 0), none, 0⟩,
    ⟨(some 29), .nilc (.t 28), none, 0⟩,
    ⟨(some 30), .fad 1 (.t 29), none, 0⟩,
    ⟨(some 31), .ld none (.t 30), none, 0⟩,
    ⟨(some 32), .mv (.t 7), none, 0⟩,
    ⟨(some 33), .mv (.t 0), none, 0⟩,
    ⟨(some 34), .nilc (.t 33), none, 0⟩,
    ⟨(some 35), .fad 1 (.t 34), none, 0⟩,
    ⟨(some 36), .ld none (.t 35), none, 0⟩,
    ⟨(some 37), .mv (.t 7), none, 0⟩,
    ⟨(some 38), .mget false [.str] (.o (.nils)) false (.t 36) (.t 37), none, 0⟩,
    ⟨(some 39), .mkf 81 [(.t 6)], none, 0⟩,
    ⟨(some 40), .call 57 [(.t 38), (.t 39)] 0, none, 0⟩,
    ⟨none, .mset false [.str] (.t 31) (.t 32) (.t 40), none, 0⟩] 0 (some [(0, 4), (1, 4), (2, 4), (3, 4), (0, 5), (1, 5), (2, 5), (3, 5), (4, 5), (0, 6), (1, 6), (2, 6), (3, 6), (4, 6), (0, 7), (1, 7), (2, 7), (3, 7), (4, 7), (0, 8), (1, 8), (2, 8), (3, 8), (4, 8), (0, 9), (1, 9), (2, 9), (3, 9), (4, 9), (5, 9), (6, 9), (7, 9), (8, 9), (0, 10), (1, 10), (2, 10), (3, 10), (4, 10), (0, 11), (1, 11), (2, 11), (3, 11), (4, 11), (5, 11), (6, 11), (7, 11), (8, 11), (9, 11), (10, 11), (0, 12), (1, 12), (2, 12), (3, 12), (4, 12)])) (.seq (.reg [
    ⟨(some 41), .mv (.t 0), none, 0⟩,
    ⟨(some 42), .nilc (.t 41), none, 0⟩,
    ⟨(some 43), .fad 2 (.t 42), none, 0⟩,
    ⟨(some 44), .ld none (.t 43), none, 0⟩,
    ⟨(some 45), .ld none (.t 6), none, 0⟩,
    ⟨none, .mdel false [.int .u64] (.t 44) (.t 45), none, 0⟩] 0 (some [(0, 4), (1, 4), (2, 4), (3, 4)])) (.reg [
    ⟨(some 46), .mv (.t 4), none, 0⟩,
    ⟨(some 47), .bin .add (.t 46) (.c (.p (.o (.int .i64 1)))), none, 0⟩,
    ⟨(some 4), .mv (.t 47), none, 0⟩] 0 none))))))) (.reg [
    ⟨(some 48), .bin .add (.t 13) (.c (.p (.o (.int .i64 1)))), none, 0⟩,
    ⟨(some 13), .mv (.t 48), none, 0⟩] 0 none))))))) (.seq (.reg [
    ⟨(some 49), .mv (.t 4), none, 0⟩,
    ⟨(some 4), .mv (.t 49), none, 0⟩] 0 none) .ret)))),
  [.tmp 4], 50, [0, 1, 4, 6, 7, 8, 11, 12, 13]⟩
theorem ok_lock_Waits_string___Leave : cFn Try.prog eqsT newsT vf_lock_Waits_string___Leave.keep Try.f72 = some vf_lock_Waits_string___Leave := by kernel_rfl
def vf_lock_Waits_string___Leave_1 : VFn := ⟨(.seq (.reg [
    ⟨(some 3), .mv (.c (.p (.o (.bool false)))), none, 0⟩] 0 none) (.seq (.reg [
    ⟨(some 4), .ld none (.t 1), none, 0⟩,
    ⟨(some 5), .mv (.t 0), none, 0⟩,
    ⟨(some 6), .bin .eql (.t 4) (.t 5), none, 0⟩,
    ⟨(some 3), .mv (.t 6), none, 0⟩] 0 none) .ret)),
  [.tmp 3], 7, [0, 1, 3]⟩
theorem ok_lock_Waits_string___Leave_1 : cFn Try.prog eqsT newsT vf_lock_Waits_string___Leave_1.keep Try.f81 = some vf_lock_Waits_string___Leave_1 := by kernel_rfl
def vf_slices_Repeat___int_int_ : VFn := ⟨(.seq (.reg [
    ⟨(some 4), .mv (.c (.p (.o (.nils)))), none, 0⟩] 0 none) (.seq (.seq (.reg [
    ⟨(some 9), .mv (.t 1), none, 0⟩,
    ⟨(some 10), .bin .lss (.t 9) (.c (.p (.o (.int .i64 0)))), none, 0⟩] 0 none) (.cond (.t 10) (.reg [
    ⟨(some 11), .bad, none, 0⟩,
    ⟨none, .bad, none, 0⟩] 0 none) .skip)) (.seq (.reg [
    ⟨(some 13), .mv (.t 0), none, 0⟩,
    ⟨(some 14), .len true (.t 13), none, 0⟩,
    ⟨(some 15), .cvi .u64 (.t 14), none, 0⟩,
    ⟨(some 16), .mv (.t 1), none, 0⟩,
    ⟨(some 17), .cvi .u64 (.t 16), none, 0⟩,
    ⟨(some 18), .call 73 [(.t 15), (.t 17)] 0, none, 0⟩,
    ⟨(some 12), .mv (.t 18), none, 0⟩,
    ⟨(some 19), .ext 0 (.t 12), none, 0⟩,
    ⟨(some 20), .ext 1 (.t 12), none, 0⟩,
    ⟨(some 5), .mv (.t 19), none, 0⟩,
    ⟨(some 6), .mv (.t 20), none, 0⟩] 0 none) (.seq (.seq (.reg [
    ⟨(some 21), .mv (.t 5), none, 0⟩,
    ⟨(some 22), .bin .gtr (.t 21) (.c (.p (.o (.int .u64 0)))), none, 0⟩,
    ⟨(some 23), .mv (.t 22), none, 0⟩,
    ⟨(some 24), .mv (.t 6), (some (23, false)), 0⟩,
    ⟨(some 25), .bin .gtr (.t 24) (.c (.p (.o (.int .u64 9223372036854775807)))), (some (23, false)), 0⟩,
    ⟨(some 26), .pick (.t 23) (.c (.p (.o (.bool true)))) (.t 25), none, 0⟩] 0 none) (.cond (.t 26) (.reg [
    ⟨(some 27), .bad, none, 0⟩,
    ⟨none, .bad, none, 0⟩] 0 none) .skip)) (.seq (.reg [
    ⟨(some 28), .mv (.t 6), none, 0⟩,
    ⟨(some 29), .cvi .i64 (.t 28), none, 0⟩,
    ⟨(some 30), .mks 1 8 [.int .i64 0] (.t 29) (.t 29), none, 0⟩,
    ⟨(some 7), .mv (.t 30), none, 1⟩] 1 none) (.seq (.reg [
    ⟨(some 31), .mv (.t 7), none, 0⟩,
    ⟨(some 32), .mv (.t 0), none, 0⟩,
    ⟨(some 33), .cpy 1 (.t 31) (.t 32), none, 0⟩,
    ⟨(some 8), .mv (.t 33), none, 0⟩] 0 none) (.seq (.block 0 (.loop (.seq (.seq (.reg [
    ⟨(some 34), .mv (.t 8), none, 0⟩,
    ⟨(some 35), .mv (.t 7), none, 0⟩,
    ⟨(some 36), .len true (.t 35), none, 0⟩,
    ⟨(some 37), .bin .lss (.t 34) (.t 36), none, 0⟩] 0 none) (.cond (.t 37) .skip (.exit 0))) (.block 1 (.reg [
    ⟨(some 38), .mv (.t 8), none, 0⟩,
    ⟨(some 39), .mv (.t 7), none, 0⟩,
    ⟨(some 40), .mv (.t 8), none, 0⟩,
    ⟨(some 41), .sll 1 (.t 39) (some (.t 40)) none, none, 0⟩,
    ⟨(some 42), .mv (.t 7), none, 0⟩,
    ⟨(some 43), .mv (.t 8), none, 0⟩,
    ⟨(some 44), .sll 1 (.t 42) none (some (.t 43)), none, 0⟩,
    ⟨(some 45), .cpy 1 (.t 41) (.t 44), none, 0⟩,
    ⟨(some 46), .bin .add (.t 38) (.t 45), none, 0⟩,
    ⟨(some 8), .mv (.t 46), none, 0⟩] 0 (some [(0, 1), (0, 2), (1, 2), (0, 3), (0, 4), (1, 4), (2, 4), (3, 4), (0, 5), (1, 5), (2, 5), (3, 5), (4, 5), (0, 6), (1, 6), (2, 6), (3, 6), (0, 7)])))))) (.seq (.reg [
    ⟨(some 47), .mv (.t 7), none, 0⟩,
    ⟨(some 4), .mv (.t 47), none, 0⟩] 0 none) .ret)))))))),
  [.tmp 4], 48, [0, 1, 4, 5, 6, 7, 8]⟩
theorem ok_slices_Repeat___int_int_ : cFn Try.prog eqsT newsT vf_slices_Repeat___int_int_.keep Try.f54 = some vf_slices_Repeat___int_int_ := by kernel_rfl
def vf_slices_Clone___uint64_uint64_ : VFn := ⟨(.seq (.reg [
    ⟨(some 2), .mv (.c (.p (.o (.nils)))), none, 0⟩] 0 none) (.seq (.seq (.reg [
    ⟨(some 3), .mv (.t 0), none, 0⟩,
    ⟨(some 4), .eq (.ref 1) false (.t 3) (.c (.p (.o (.nils)))), none, 0⟩] 0 none) (.cond (.t 4) (.seq (.reg [
    ⟨(some 2), .mv (.c (.p (.o (.nils)))), none, 0⟩] 0 none) .ret) .skip)) (.seq (.reg [
    ⟨(some 5), .bsl 0 [] [], none, 0⟩,
    ⟨(some 6), .mv (.t 0), none, 1⟩,
    ⟨(some 7), .app 1 8 (.t 5) (.t 6), none, 1⟩,
    ⟨(some 2), .mv (.t 7), none, 2⟩] 2 none) .ret))),
  [.tmp 2], 8, [0, 2]⟩
theorem ok_slices_Clone___uint64_uint64_ : cFn Try.prog eqsT newsT vf_slices_Clone___uint64_uint64_.keep Try.f56 = some vf_slices_Clone___uint64_uint64_ := by kernel_rfl
def vf_slices_DeleteFunc___uint64_uint64_ : VFn := ⟨(.seq (.reg [
    ⟨(some 4), .mv (.c (.p (.o (.nils)))), none, 0⟩] 0 none) (.seq (.reg [
    ⟨(some 8), .mv (.t 0), none, 0⟩,
    ⟨(some 9), .mv (.t 1), none, 0⟩,
    ⟨(some 10), .call 74 [(.t 8), (.t 9)] 0, none, 0⟩,
    ⟨(some 5), .mv (.t 10), none, 0⟩] 0 none) (.seq (.seq (.reg [
    ⟨(some 11), .mv (.t 5), none, 0⟩,
    ⟨(some 12), .bin .eql (.t 11) (.c (.p (.o (.int .i64 (-1))))), none, 0⟩] 0 none) (.cond (.t 12) (.seq (.reg [
    ⟨(some 13), .mv (.t 0), none, 0⟩,
    ⟨(some 4), .mv (.t 13), none, 0⟩] 0 none) .ret) .skip)) (.seq (.seq (.reg [
    ⟨(some 14), .mv (.t 5), none, 0⟩,
    ⟨(some 15), .bin .add (.t 14) (.c (.p (.o (.int .i64 1)))), none, 0⟩,
    ⟨(some 6), .mv (.t 15), none, 0⟩] 0 none) (.block 0 (.loop (.seq (.seq (.reg [
    ⟨(some 16), .mv (.t 6), none, 0⟩,
    ⟨(some 17), .mv (.t 0), none, 0⟩,
    ⟨(some 18), .len true (.t 17), none, 0⟩,
    ⟨(some 19), .bin .lss (.t 16) (.t 18), none, 0⟩] 0 none) (.cond (.t 19) .skip (.exit 0))) (.seq (.block 1 (.seq (.reg [
    ⟨(some 22), .mv (.t 0), none, 0⟩,
    ⟨(some 23), .mv (.t 6), none, 0⟩,
    ⟨(some 24), .iad 1 (.t 22) (.t 23), none, 0⟩,
    ⟨(some 25), .ld none (.t 24), none, 0⟩,
    ⟨(some 7), .mv (.t 25), none, 0⟩] 0 none) (.seq (.reg [
    ⟨(some 26), .mv (.t 1), none, 0⟩,
    ⟨(some 27), .mv (.t 7), none, 0⟩,
    ⟨(some 28), .callv (.t 26) [(.t 27)] 2, none, 0⟩,
    ⟨(some 29), .un .not (.t 28), none, 2⟩] 2 none) (.cond (.t 29) (.seq (.reg [
    ⟨(some 30), .mv (.t 0), none, 0⟩,
    ⟨(some 31), .mv (.t 5), none, 0⟩,
    ⟨(some 32), .mv (.t 7), none, 0⟩,
    ⟨(some 33), .iad 1 (.t 30) (.t 31), none, 0⟩,
    ⟨none, .st 1 (.t 33) (.t 32), none, 0⟩] 0 none) (.reg [
    ⟨(some 34), .mv (.t 5), none, 0⟩,
    ⟨(some 35), .bin .add (.t 34) (.c (.p (.o (.int .i64 1)))), none, 0⟩,
    ⟨(some 5), .mv (.t 35), none, 0⟩] 0 none)) .skip)))) (.reg [
    ⟨(some 20), .mv (.t 6), none, 0⟩,
    ⟨(some 21), .bin .add (.t 20) (.c (.p (.o (.int .i64 1)))), none, 0⟩,
    ⟨(some 6), .mv (.t 21), none, 0⟩] 0 none)))))) (.seq (.reg [
    ⟨(some 36), .mv (.t 0), none, 0⟩,
    ⟨(some 37), .mv (.t 5), none, 0⟩,
    ⟨(some 38), .sll 1 (.t 36) (some (.t 37)) none, none, 0⟩,
    ⟨none, .clr [.int .u64 0] (.t 38), none, 0⟩] 0 none) (.seq (.reg [
    ⟨(some 39), .mv (.t 0), none, 0⟩,
    ⟨(some 40), .mv (.t 5), none, 0⟩,
    ⟨(some 41), .sll 1 (.t 39) none (some (.t 40)), none, 0⟩,
    ⟨(some 4), .mv (.t 41), none, 0⟩] 0 none) .ret)))))),
  [.tmp 4], 42, [0, 1, 4, 5, 6, 7]⟩
theorem ok_slices_DeleteFunc___uint64_uint64_ : cFn Try.prog eqsT newsT vf_slices_DeleteFunc___uint64_uint64_.keep Try.f57 = some vf_slices_DeleteFunc___uint64_uint64_ := by kernel_rfl
def vf_slices_IndexFunc___uint64_uint64_ : VFn := ⟨(.seq (.reg [
    ⟨(some 4), .mv (.c (.p (.o (.int .i64 0)))), none, 0⟩] 0 none) (.seq (.seq (.reg [
    ⟨(some 6), .mv (.t 0), none, 0⟩,
    ⟨(some 7), .len true (.t 6), none, 0⟩,
    ⟨(some 8), .mv (.c (.p (.o (.int .i64 0)))), none, 0⟩] 0 none) (.block 0 (.loop (.seq (.reg [
    ⟨(some 9), .bin .lss (.t 8) (.t 7), none, 0⟩] 0 none) (.seq (.cond (.t 9) .skip (.exit 0)) (.seq (.block 1 (.seq (.reg [
    ⟨(some 10), .mv (.t 8), none, 0⟩,
    ⟨(some 5), .mv (.t 10), none, 0⟩] 0 none) (.seq (.reg [
    ⟨(some 11), .mv (.t 1), none, 0⟩,
    ⟨(some 12), .mv (.t 0), none, 0⟩,
    ⟨(some 13), .mv (.t 5), none, 0⟩,
    ⟨(some 14), .iad 1 (.t 12) (.t 13), none, 0⟩,
    ⟨(some 15), .ld none (.t 14), none, 0⟩,
    ⟨(some 16), .callv (.t 11) [(.t 15)] 2, none, 0⟩] 2 none) (.cond (.t 16) (.seq (.reg [
    ⟨(some 17), .mv (.t 5), none, 0⟩,
    ⟨(some 4), .mv (.t 17), none, 0⟩] 0 none) .ret) .skip)))) (.reg [
    ⟨(some 18), .bin .add (.t 8) (.c (.p (.o (.int .i64 1)))), none, 0⟩,
    ⟨(some 8), .mv (.t 18), none, 0⟩] 0 none))))))) (.seq (.reg [
    ⟨(some 4), .mv (.c (.p (.o (.int .i64 (-1))))), none, 0⟩] 0 none) .ret))),
  [.tmp 4], 19, [0, 1, 4, 5, 7, 8]⟩
theorem ok_slices_IndexFunc___uint64_uint64_ : cFn Try.prog eqsT newsT vf_slices_IndexFunc___uint64_uint64_.keep Try.f74 = some vf_slices_IndexFunc___uint64_uint64_ := by kernel_rfl
def vf_bits_Mul : VFn := ⟨(.seq (.reg [
    ⟨(some 4), .mv (.c (.p (.o (.int .u64 0)))), none, 0⟩,
    ⟨(some 5), .mv (.c (.p (.o (.int .u64 0)))), none, 0⟩] 0 none) (.seq (.cond (.c (.p (.o (.bool false)))) (.seq (.reg [
    ⟨(some 11), .mv (.t 0), none, 0⟩,
    ⟨(some 12), .cvi .u32 (.t 11), none, 0⟩,
    ⟨(some 13), .mv (.t 1), none, 0⟩,
    ⟨(some 14), .cvi .u32 (.t 13), none, 0⟩,
    ⟨(some 15), .call 82 [(.t 12), (.t 14)] 0, none, 0⟩,
    ⟨(some 10), .mv (.t 15), none, 0⟩,
    ⟨(some 16), .ext 0 (.t 10), none, 0⟩,
    ⟨(some 17), .ext 1 (.t 10), none, 0⟩,
    ⟨(some 6), .mv (.t 16), none, 0⟩,
    ⟨(some 7), .mv (.t 17), none, 0⟩] 0 none) (.seq (.reg [
    ⟨(some 18), .mv (.t 6), none, 0⟩,
    ⟨(some 19), .cvi .u64 (.t 18), none, 0⟩,
    ⟨(some 20), .mv (.t 7), none, 0⟩,
    ⟨(some 21), .cvi .u64 (.t 20), none, 0⟩,
    ⟨(some 4), .mv (.t 19), none, 0⟩,
    ⟨(some 5), .mv (.t 21), none, 0⟩] 0 none) .ret)) .skip) (.seq (.reg [
    ⟨(some 23), .mv (.t 0), none, 0⟩,
    ⟨(some 24), .mv (.t 1), none, 0⟩,
    ⟨(some 25), .call 83 [(.t 23), (.t 24)] 0, none, 0⟩,
    ⟨(some 22), .mv (.t 25), none, 0⟩,
    ⟨(some 26), .ext 0 (.t 22), none, 0⟩,
    ⟨(some 27), .ext 1 (.t 22), none, 0⟩,
    ⟨(some 8), .mv (.t 26), none, 0⟩,
    ⟨(some 9), .mv (.t 27), none, 0⟩] 0 none) (.seq (.reg [
    ⟨(some 28), .mv (.t 8), none, 0⟩,
    ⟨(some 29), .mv (.t 9), none, 0⟩,
    ⟨(some 4), .mv (.t 28), none, 0⟩,
    ⟨(some 5), .mv (.t 29), none, 0⟩] 0 none) .ret)))),
  [.tmp 4, .tmp 5], 30, [0, 1, 4, 5, 6, 7, 8, 9]⟩
theorem ok_bits_Mul : cFn Try.prog eqsT newsT vf_bits_Mul.keep Try.f73 = some vf_bits_Mul := by kernel_rfl
def vf_bits_Mul32 : VFn := ⟨(.seq (.reg [
    ⟨(some 4), .mv (.c (.p (.o (.int .u32 0)))), none, 0⟩,
    ⟨(some 5), .mv (.c (.p (.o (.int .u32 0)))), none, 0⟩] 0 none) (.seq (.reg [
    ⟨(some 7), .mv (.t 0), none, 0⟩,
    ⟨(some 8), .cvi .u64 (.t 7), none, 0⟩,
    ⟨(some 9), .mv (.t 1), none, 0⟩,
    ⟨(some 10), .cvi .u64 (.t 9), none, 0⟩,
    ⟨(some 11), .bin .mul (.t 8) (.t 10), none, 0⟩,
    ⟨(some 6), .mv (.t 11), none, 0⟩] 0 none) (.seq (.reg [
    ⟨(some 12), .mv (.t 6), none, 0⟩,
    ⟨(some 13), .bin .shr (.t 12) (.c (.p (.o (.int .u64 32)))), none, 0⟩,
    ⟨(some 14), .cvi .u32 (.t 13), none, 0⟩,
    ⟨(some 15), .mv (.t 6), none, 0⟩,
    ⟨(some 16), .cvi .u32 (.t 15), none, 0⟩,
    ⟨(some 4), .mv (.t 14), none, 0⟩,
    ⟨(some 5), .mv (.t 16), none, 0⟩] 0 none) .ret))),
  [.tmp 4, .tmp 5], 17, [0, 1, 4, 5, 6]⟩
theorem ok_bits_Mul32 : cFn Try.prog eqsT newsT vf_bits_Mul32.keep Try.f82 = some vf_bits_Mul32 := by kernel_rfl
def vf_bits_Mul64 : VFn := ⟨(.seq (.reg [
    ⟨(some 4), .mv (.c (.p (.o (.int .u64 0)))), none, 0⟩,
    ⟨(some 5), .mv (.c (.p (.o (.int .u64 0)))), none, 0⟩] 0 none) (.seq (.reg [
    ⟨(some 14), .mv (.t 0), none, 0⟩,
    ⟨(some 15), .bin .and (.t 14) (.c (.p (.o (.int .u64 4294967295)))), none, 0⟩,
    ⟨(some 6), .mv (.t 15), none, 0⟩] 0 none) (.seq (.reg [
    ⟨(some 16), .mv (.t 0), none, 0⟩,
    ⟨(some 17), .bin .shr (.t 16) (.c (.p (.o (.int .u64 32)))), none, 0⟩,
    ⟨(some 7), .mv (.t 17), none, 0⟩] 0 none) (.seq (.reg [
    ⟨(some 18), .mv (.t 1), none, 0⟩,
    ⟨(some 19), .bin .and (.t 18) (.c (.p (.o (.int .u64 4294967295)))), none, 0⟩,
    ⟨(some 8), .mv (.t 19), none, 0⟩] 0 none) (.seq (.reg [
    ⟨(some 20), .mv (.t 1), none, 0⟩,
    ⟨(some 21), .bin .shr (.t 20) (.c (.p (.o (.int .u64 32)))), none, 0⟩,
    ⟨(some 9), .mv (.t 21), none, 0⟩] 0 none) (.seq (.reg [
    ⟨(some 22), .mv (.t 6), none, 0⟩,
    ⟨(some 23), .mv (.t 8), none, 0⟩,
    ⟨(some 24), .bin .mul (.t 22) (.t 23), none, 0⟩,
    ⟨(some 10), .mv (.t 24), none, 0⟩] 0 none) (.seq (.reg [
    ⟨(some 25), .mv (.t 7), none, 0⟩,
    ⟨(some 26), .mv (.t 8), none, 0⟩,
    ⟨(some 27), .bin .mul (.t 25) (.t 26), none, 0⟩,
    ⟨(some 28), .mv (.t 10), none, 0⟩,
    ⟨(some 29), .bin .shr (.t 28) (.c (.p (.o (.int .u64 32)))), none, 0⟩,
    ⟨(some 30), .bin .add (.t 27) (.t 29), none, 0⟩,
    ⟨(some 11), .mv (.t 30), none, 0⟩] 0 none) (.seq (.reg [
    ⟨(some 31), .mv (.t 11), none, 0⟩,
    ⟨(some 32), .bin .and (.t 31) (.c (.p (.o (.int .u64 4294967295)))), none, 0⟩,
    ⟨(some 12), .mv (.t 32), none, 0⟩] 0 none) (.seq (.reg [
    ⟨(some 33), .mv (.t 11), none, 0⟩,
    ⟨(some 34), .bin .shr (.t 33) (.c (.p (.o (.int .u64 32)))), none, 0⟩,
    ⟨(some 13), .mv (.t 34), none, 0⟩] 0 none) (.seq (.reg [
    ⟨(some 35), .mv (.t 12), none, 0⟩,
    ⟨(some 36), .mv (.t 6), none, 0⟩,
    ⟨(some 37), .mv (.t 9), none, 0⟩,
    ⟨(some 38), .bin .mul (.t 36) (.t 37), none, 0⟩,
    ⟨(some 39), .bin .add (.t 35) (.t 38), none, 0⟩,
    ⟨(some 12), .mv (.t 39), none, 0⟩] 0 none) (.seq (.reg [
    ⟨(some 40), .mv (.t 7), none, 0⟩,
    ⟨(some 41), .mv (.t 9), none, 0⟩,
    ⟨(some 42), .bin .mul (.t 40) (.t 41), none, 0⟩,
    ⟨(some 43), .mv (.t 13), none, 0⟩,
    ⟨(some 44), .bin .add (.t 42) (.t 43), none, 0⟩,
    ⟨(some 45), .mv (.t 12), none, 0⟩,
    ⟨(some 46), .bin .shr (.t 45) (.c (.p (.o (.int .u64 32)))), none, 0⟩,
    ⟨(some 47), .bin .add (.t 44) (.t 46), none, 0⟩,
    ⟨(some 4), .mv (.t 47), none, 0⟩] 0 none) (.seq (.reg [
    ⟨(some 48), .mv (.t 0), none, 0⟩,
    ⟨(some 49), .mv (.t 1), none, 0⟩,
    ⟨(some 50), .bin .mul (.t 48) (.t 49), none, 0⟩,
    ⟨(some 5), .mv (.t 50), none, 0⟩] 0 none) .ret)))))))))))),
  [.tmp 4, .tmp 5], 51, [0, 1, 4, 5, 6, 7, 8, 9, 10, 11, 12, 13]⟩
theorem ok_bits_Mul64 : cFn Try.prog eqsT newsT vf_bits_Mul64.keep Try.f83 = some vf_bits_Mul64 := by kernel_rfl
def vf_law18_works : VFn := ⟨(.seq (.reg [
    ⟨(some 0), .mv (.c (.p (.o (.bool false)))), none, 0⟩] 0 none) (.seq (.reg [
    ⟨(some 16), .call 14 [(.c (.p (.o (.int .i64 2))))] 2, none, 0⟩,
    ⟨(some 15), .mv (.t 16), none, 2⟩,
    ⟨(some 17), .ext 0 (.t 15), none, 2⟩,
    ⟨(some 18), .ext 1 (.t 15), none, 2⟩,
    ⟨(some 1), .mv (.t 17), none, 2⟩,
    ⟨(some 2), .mv (.t 18), none, 2⟩] 2 none) (.seq (.reg [
    ⟨(some 20), .call 51 [(.c (.p (.o (.int .i64 2))))] 3, none, 0⟩,
    ⟨(some 19), .mv (.t 20), none, 3⟩,
    ⟨(some 21), .ext 0 (.t 19), none, 3⟩,
    ⟨(some 22), .ext 1 (.t 19), none, 3⟩,
    ⟨(some 3), .mv (.t 21), none, 3⟩,
    ⟨(some 4), .mv (.t 22), none, 3⟩] 3 none) (.seq (.seq (.reg [
    ⟨(some 23), .mv (.t 2), none, 0⟩,
    ⟨(some 24), .bin .neq (.t 23) (.c (.p (.o (.int .i64 0)))), none, 0⟩,
    ⟨(some 25), .mv (.t 24), none, 0⟩,
    ⟨(some 26), .mv (.t 4), (some (25, false)), 0⟩,
    ⟨(some 27), .bin .neq (.t 26) (.c (.p (.o (.int .i64 0)))), (some (25, false)), 0⟩,
    ⟨(some 28), .pick (.t 25) (.c (.p (.o (.bool true)))) (.t 27), none, 0⟩,
    ⟨(some 29), .mv (.t 28), none, 0⟩,
    ⟨(some 30), .mv (.t 1), (some (29, false)), 0⟩,
    ⟨(some 31), .eq (.ref 0) false (.t 30) (.c (.p (.o (.nilp)))), (some (29, false)), 0⟩,
    ⟨(some 32), .pick (.t 29) (.c (.p (.o (.bool true)))) (.t 31), none, 0⟩,
    ⟨(some 33), .mv (.t 32), none, 0⟩,
    ⟨(some 34), .mv (.t 3), (some (33, false)), 0⟩,
    ⟨(some 35), .eq (.ref 0) false (.t 34) (.c (.p (.o (.nilp)))), (some (33, false)), 0⟩,
    ⟨(some 36), .pick (.t 33) (.c (.p (.o (.bool true)))) (.t 35), none, 0⟩] 0 none) (.cond (.t 36) (.seq (.reg [
    ⟨(some 0), .mv (.c (.p (.o (.bool false)))), none, 0⟩] 0 none) .ret) .skip)) (.seq (.reg [
    ⟨(some 38), .mv (.t 1), none, 0⟩,
    ⟨(some 39), .call 16 [(.t 38), (.c (.p (.o (.int .i64 0)))), (.c (.p (.o (.int .i64 1))))] 0, none, 0⟩,
    ⟨(some 37), .mv (.t 39), none, 0⟩,
    ⟨(some 40), .ext 0 (.t 37), none, 0⟩,
    ⟨(some 41), .ext 1 (.t 37), none, 0⟩,
    ⟨(some 5), .mv (.t 40), none, 0⟩,
    ⟨(some 6), .mv (.t 41), none, 0⟩] 0 none) (.seq (.reg [
    ⟨(some 43), .mv (.t 1), none, 0⟩,
    ⟨(some 44), .call 16 [(.t 43), (.c (.p (.o (.int .i64 0)))), (.c (.p (.o (.int .i64 2))))] 0, none, 0⟩,
    ⟨(some 42), .mv (.t 44), none, 0⟩,
    ⟨(some 45), .ext 0 (.t 42), none, 0⟩,
    ⟨(some 46), .ext 1 (.t 42), none, 0⟩,
    ⟨(some 7), .mv (.t 45), none, 0⟩,
    ⟨(some 8), .mv (.t 46), none, 0⟩] 0 none) (.seq (.reg [
    ⟨(some 47), .mv (.t 1), none, 0⟩,
    ⟨(some 48), .call 15 [(.t 47), (.c (.p (.o (.int .i64 0)))), (.c (.p (.o (.int .i64 1))))] 0, none, 0⟩,
    ⟨(some 9), .mv (.t 48), none, 0⟩] 0 none) (.seq (.reg [
    ⟨(some 50), .mv (.t 1), none, 0⟩,
    ⟨(some 51), .call 16 [(.t 50), (.c (.p (.o (.int .i64 0)))), (.c (.p (.o (.int .i64 2))))] 0, none, 0⟩,
    ⟨(some 49), .mv (.t 51), none, 0⟩,
    ⟨(some 52), .ext 0 (.t 49), none, 0⟩,
    ⟨(some 53), .ext 1 (.t 49), none, 0⟩,
    ⟨(some 10), .mv (.t 52), none, 0⟩,
    ⟨(some 11), .mv (.t 53), none, 0⟩] 0 none) (.seq (.reg [
    ⟨(some 54), .mv (.t 3), none, 0⟩,
    ⟨(some 55), .call 52 [(.t 54), (.c (.p (.o (.str ⟨#[120]⟩)))), (.c (.p (.o (.int .u64 5))))] 2, none, 0⟩,
    ⟨(some 12), .mv (.t 55), none, 2⟩] 2 none) (.seq (.reg [
    ⟨(some 56), .mv (.t 3), none, 0⟩,
    ⟨(some 57), .call 52 [(.t 56), (.c (.p (.o (.str ⟨#[120]⟩)))), (.c (.p (.o (.int .u64 5))))] 2, none, 0⟩,
    ⟨(some 13), .mv (.t 57), none, 2⟩] 2 none) (.seq (.reg [
    ⟨(some 58), .mv (.t 3), none, 0⟩,
    ⟨(some 59), .call 53 [(.t 58), (.c (.p (.o (.str ⟨#[120]⟩)))), (.c (.p (.o (.int .i64 9))))] 2, none, 0⟩,
    ⟨(some 14), .mv (.t 59), none, 2⟩] 2 none) (.seq (.reg [
    ⟨(some 60), .mv (.t 5), none, 0⟩,
    ⟨(some 61), .bin .eql (.t 60) (.c (.p (.o (.int .u8 1)))), none, 0⟩,
    ⟨(some 62), .mv (.t 61), none, 0⟩,
    ⟨(some 63), .mv (.t 7), (some (62, true)), 0⟩,
    ⟨(some 64), .bin .eql (.t 63) (.c (.p (.o (.int .u8 0)))), (some (62, true)), 0⟩,
    ⟨(some 65), .pick (.t 62) (.t 64) (.c (.p (.o (.bool false)))), none, 0⟩,
    ⟨(some 66), .mv (.t 65), none, 0⟩,
    ⟨(some 67), .mv (.t 9), (some (66, true)), 0⟩,
    ⟨(some 68), .bin .eql (.t 67) (.c (.p (.o (.int .i64 0)))), (some (66, true)), 0⟩,
    ⟨(some 69), .pick (.t 66) (.t 68) (.c (.p (.o (.bool false)))), none, 0⟩,
    ⟨(some 70), .mv (.t 69), none, 0⟩,
    ⟨(some 71), .mv (.t 10), (some (70, true)), 0⟩,
    ⟨(some 72), .bin .eql (.t 71) (.c (.p (.o (.int .u8 1)))), (some (70, true)), 0⟩,
    ⟨(some 73), .pick (.t 70) (.t 72) (.c (.p (.o (.bool false)))), none, 0⟩,
    ⟨(some 74), .mv (.t 73), none, 0⟩,
    ⟨(some 75), .mv (.t 1), (some (74, true)), 0⟩,
    ⟨(some 76), .call 27 [(.t 75), (.c (.p (.o (.int .i64 2))))] 0, (some (74, true)), 0⟩,
    ⟨(some 77), .bin .eql (.t 76) (.c (.p (.o (.int .u64 1)))), (some (74, true)), 0⟩,
    ⟨(some 78), .pick (.t 74) (.t 77) (.c (.p (.o (.bool false)))), none, 0⟩,
    ⟨(some 79), .mv (.t 78), none, 0⟩,
    ⟨(some 80), .mv (.t 12), (some (79, true)), 0⟩,
    ⟨(some 81), .bin .eql (.t 80) (.c (.p (.o (.int .i64 0)))), (some (79, true)), 0⟩,
    ⟨(some 82), .pick (.t 79) (.t 81) (.c (.p (.o (.bool false)))), none, 0⟩,
    ⟨(some 83), .mv (.t 82), none, 0⟩,
    ⟨(some 84), .mv (.t 13), (some (83, true)), 0⟩,
    ⟨(some 85), .bin .eql (.t 84) (.c (.p (.o (.int .i64 7)))), (some (83, true)), 0⟩,
    ⟨(some 86), .pick (.t 83) (.t 85) (.c (.p (.o (.bool false)))), none, 0⟩,
    ⟨(some 87), .mv (.t 86), none, 0⟩,
    ⟨(some 88), .mv (.t 14), (some (87, true)), 0⟩,
    ⟨(some 89), .len true (.t 88), (some (87, true)), 0⟩,
    ⟨(some 90), .bin .eql (.t 89) (.c (.p (.o (.int .i64 1)))), (some (87, true)), 0⟩,
    ⟨(some 91), .pick (.t 87) (.t 90) (.c (.p (.o (.bool false)))), none, 0⟩,
    ⟨(some 92), .mv (.t 91), none, 0⟩,
    ⟨(some 93), .mv (.t 14), (some (92, true)), 0⟩,
    ⟨(some 94), .iad 1 (.t 93) (.c (.p (.o (.int .i64 0)))), (some (92, true)), 0⟩,
    ⟨(some 95), .ld none (.t 94), (some (92, true)), 0⟩,
    ⟨(some 96), .bin .eql (.t 95) (.c (.p (.o (.int .u64 5)))), (some (92, true)), 0⟩,
    ⟨(some 97), .pick (.t 92) (.t 96) (.c (.p (.o (.bool false)))), none, 0⟩,
    ⟨(some 0), .mv (.t 97), none, 0⟩] 0 none) .ret)))))))))))),
  [.tmp 0], 98, [0, 1, 2, 3, 4, 5, 7, 9, 10, 12, 13, 14]⟩
theorem ok_law18_works : cFn Try.prog eqsT newsT vf_law18_works.keep Try.f13 = some vf_law18_works := by kernel_rfl
theorem eqK_str (s : ByteArray) : eqK false [.str] (.o (.str s)) (.o (.str s)) = some true := by simp [eqK, eqCells]
theorem LookM.hs {s : ByteArray} {v : PV} {b : Nat} {es : List MEnt} {K : Option PV → Prop} (g : K (some v)) : LookM false [.str] (⟨.o (.str s), v, b⟩ :: es) (.o (.str s)) K := ⟨_, by simp only [mfind, eqK_str], g⟩
theorem PutM.hs {s : ByteArray} {v v' : PV} {b c : Nat} {es : List MEnt} {K : List MEnt → Nat → Prop} (g : K (⟨.o (.str s), v', b⟩ :: es) c) : PutM false [.str] (⟨.o (.str s), v, b⟩ :: es) c (.o (.str s)) v' K := ⟨_, _, by simp only [mput, eqK_str], g⟩
set_option maxHeartbeats 8000000 in
theorem del_det : Det G Try.prog 57 [.o (.slc 0 0 1 (.upto 1)), .o (.fn 81 [(1, 0)])] [.row true true [.int .u64 5], .row true false [.int .u64 5]] (.p (.o (.slc 0 0 0 (.upto 1)))) [.row true true [.int .u64 0], .row true false [.int .u64 5]] := by
  refine can_of_W known mix Try.func57 (by kernel_rfl) ok_slices_DeleteFunc___uint64_uint64_ (Nat.le_of_ble_eq_true rfl) ?_
  repeat' ((conv => whnf); first
    | ((with_reducible refine Look.mk ?_); refine ⟨_, rfl, ?_⟩)
    | ((with_reducible refine LookN.zeros ?_))
    | ((with_reducible refine LookN.bytes ?_ ?_); (simp; done))
    | ((with_reducible refine BytesW.bytes ?_))
    | ((with_reducible refine Look.byte ?_ ?_); omega)
    | ((with_reducible refine Look.setb ?_ ?_ ?_); exact bv8_bd _; omega)
    | ((with_reducible refine LookN.setb ?_ ?_ ?_); exact bv8_bd _; omega)
    | ((with_reducible refine LookN.mk ?_); refine ⟨_, rfl, ?_⟩)
    | ((with_reducible refine Need.mk ?_ ?_); first | ((with_reducible refine needB ?_); kernel_rfl) | with_reducible rfl | omega | (with_reducible refine ⟨rfl, ?_⟩; focus omega) | (simp only [ByteArray.size_append, size_lit, List.size_toArray, List.length_cons, List.length_nil]; omega) | exact rfl | trivial | exact Nat.le_of_ble_eq_true rfl | (exact ⟨rfl, by omega⟩) | (intro h; first | rfl | cases h) | (simp only [lenS_text, lenS_setN, lenS_zeros]; omega))
    | ((with_reducible refine BytesW.mk ?_); refine ⟨_, rfl, ?_⟩)
    | ((with_reducible refine WrT.same ?_ ?_); focus ((repeat ((conv => whnf); first | exact trivial | (apply And.intro; focus rfl))); done))
    | (with_reducible refine WrT.all ?_)
    | (with_reducible refine DropW.keep ?_)
    | ((with_reducible refine Test.dt ?_ ?_); focus decide +kernel)
    | ((with_reducible refine Test.df ?_ ?_); focus decide +kernel)
    | ((with_reducible refine Test.ieT ?_ ?_); focus decide +kernel)
    | ((with_reducible refine Test.ieF ?_ ?_); focus decide +kernel)
    | ((with_reducible refine Test.neT ?_ ?_); focus decide +kernel)
    | ((with_reducible refine Test.neF ?_ ?_); focus decide +kernel)
    | ((with_reducible refine Test.b ?_ ?_); focus decide +kernel)
    | ((with_reducible refine Test.nb ?_ ?_); focus decide +kernel)
    | ((with_reducible refine LookM.hs ?_))
    | ((with_reducible refine PutM.hs ?_))
    | ((with_reducible refine LookM.mk ?_); refine ⟨_, rfl, ?_⟩)
    | ((with_reducible refine PutM.mk ?_); refine ⟨_, _, rfl, ?_⟩)
    | ((with_reducible refine DropM.mk ?_); refine ⟨_, rfl, ?_⟩)
    | (with_reducible refine LoopW.unroll (fun X hX => ?_))
    | (refine hX _ _ ?_)
    | (with_reducible refine CallW.can (can_of_W known mix Try.func74 (by kernel_rfl) ok_slices_IndexFunc___uint64_uint64_ (Nat.le_of_ble_eq_true rfl) ?_) (fun _ _ h => h))
    | (with_reducible refine CallW.can (can_of_W known mix Try.func81 (by kernel_rfl) ok_lock_Waits_string___Leave_1 (Nat.le_of_ble_eq_true rfl) ?_) (fun _ _ h => h))
    | ((with_reducible refine Test.tmodEqT ?_ ?_ ?_); omega; focus first | omega | assumption)
    | ((with_reducible refine Test.tmodEqF ?_ ?_ ?_); omega; focus first | omega | assumption)
    | ((with_reducible refine Test.tmodNeT ?_ ?_ ?_); omega; focus first | omega | assumption)
    | ((with_reducible refine Test.tmodNeF ?_ ?_ ?_); omega; focus first | omega | assumption)
    | ((with_reducible refine Test.tmodEq ?_ (fun h => ?_) (fun h => ?_)); omega)
    | ((with_reducible refine Test.tmodNe ?_ (fun h => ?_) (fun h => ?_)); omega)
    | ((with_reducible refine Test.notT ?_ ?_); focus assumption)
    | ((with_reducible refine Test.notF ?_ ?_); focus assumption)
    | (with_reducible refine Test.notIe (fun h => ?_) (fun h => ?_))
    | (with_reducible refine Test.notD (fun h => ?_) (fun h => ?_))
    | ((with_reducible refine Test.empty (fun h => ?_) (fun h => ?_)))
    | (with_reducible refine Test.tt ?_)
    | (with_reducible refine Test.ff ?_)
    | ((with_reducible refine Test.dt ?_ ?_); omega)
    | ((with_reducible refine Test.df ?_ ?_); omega)
    | (with_reducible refine Test.d (fun h => ?_) (fun h => ?_))
    | ((with_reducible refine Test.ieT ?_ ?_); omega)
    | ((with_reducible refine Test.ieF ?_ ?_); omega)
    | ((with_reducible refine Test.neT ?_ ?_); omega)
    | ((with_reducible refine Test.neF ?_ ?_); omega)
    | (with_reducible refine Test.ie (fun h => ?_) (fun h => ?_))
    | (with_reducible refine Test.ne (fun h => ?_) (fun h => ?_))
    | ((with_reducible refine Test.b ?_ ?_); (focus first | assumption | (simp [negB]; done) | exact rfl))
    | ((with_reducible refine Test.nb ?_ ?_); (focus first | assumption | (simp [negB]; done) | exact rfl))
    | (with_reducible refine Test.notS (fun h => ?_) (fun h => ?_))
    | (with_reducible refine Test.mk (fun h => ?_) (fun h => ?_))
    | ((with_reducible refine Arith.tdiv ?_ ?_); omega)
    | (with_reducible refine Arith.bv8 ?_)
    | (with_reducible refine Arith.bv16 ?_)
    | (with_reducible refine Arith.bv32 ?_)
    | (with_reducible refine Arith.bv64 ?_)
    | ((with_reducible refine Arith.i64 ?_ ?_); omega)
    | ((with_reducible refine Arith.u64 ?_ ?_); omega)
    | ((with_reducible refine Arith.u32 ?_ ?_); omega)
    | ((with_reducible refine Arith.u16 ?_ ?_); omega)
    | ((with_reducible refine Arith.u8 ?_ ?_); omega)
    | ((with_reducible refine Arith.i32 ?_ ?_); omega)
    | (with_reducible refine Arith.mk ?_)
    | (with_reducible refine Ends.mk ?_))
  all_goals first | exact ⟨rfl, rfl⟩
set_option maxHeartbeats 8000000 in
theorem works_det : Det G Try.prog 13 [] [] (vB true) [] := by
  refine can_of_W known mix Try.func13 (by kernel_rfl) ok_law18_works (Nat.le_of_ble_eq_true rfl) ?_
  repeat' ((conv => whnf); first
    | ((with_reducible refine Look.mk ?_); refine ⟨_, rfl, ?_⟩)
    | ((with_reducible refine LookN.zeros ?_))
    | ((with_reducible refine LookN.bytes ?_ ?_); (simp; done))
    | ((with_reducible refine BytesW.bytes ?_))
    | ((with_reducible refine Look.byte ?_ ?_); omega)
    | ((with_reducible refine Look.setb ?_ ?_ ?_); exact bv8_bd _; omega)
    | ((with_reducible refine LookN.setb ?_ ?_ ?_); exact bv8_bd _; omega)
    | ((with_reducible refine LookN.mk ?_); refine ⟨_, rfl, ?_⟩)
    | ((with_reducible refine Need.mk ?_ ?_); first | ((with_reducible refine needB ?_); kernel_rfl) | with_reducible rfl | omega | (with_reducible refine ⟨rfl, ?_⟩; focus omega) | (simp only [ByteArray.size_append, size_lit, List.size_toArray, List.length_cons, List.length_nil]; omega) | exact rfl | trivial | exact Nat.le_of_ble_eq_true rfl | (exact ⟨rfl, by omega⟩) | (intro h; first | rfl | cases h) | (simp only [lenS_text, lenS_setN, lenS_zeros]; omega))
    | ((with_reducible refine BytesW.mk ?_); refine ⟨_, rfl, ?_⟩)
    | (with_reducible refine CallW.det (del_det) ?_)
    | ((with_reducible refine WrT.same ?_ ?_); focus ((repeat ((conv => whnf); first | exact trivial | (apply And.intro; focus rfl))); done))
    | (with_reducible refine WrT.all ?_)
    | (with_reducible refine DropW.keep ?_)
    | ((with_reducible refine Test.dt ?_ ?_); focus decide +kernel)
    | ((with_reducible refine Test.df ?_ ?_); focus decide +kernel)
    | ((with_reducible refine Test.ieT ?_ ?_); focus decide +kernel)
    | ((with_reducible refine Test.ieF ?_ ?_); focus decide +kernel)
    | ((with_reducible refine Test.neT ?_ ?_); focus decide +kernel)
    | ((with_reducible refine Test.neF ?_ ?_); focus decide +kernel)
    | ((with_reducible refine Test.b ?_ ?_); focus decide +kernel)
    | ((with_reducible refine Test.nb ?_ ?_); focus decide +kernel)
    | ((with_reducible refine LookM.hs ?_))
    | ((with_reducible refine PutM.hs ?_))
    | ((with_reducible refine LookM.mk ?_); refine ⟨_, rfl, ?_⟩)
    | ((with_reducible refine PutM.mk ?_); refine ⟨_, _, rfl, ?_⟩)
    | ((with_reducible refine DropM.mk ?_); refine ⟨_, rfl, ?_⟩)
    | (with_reducible refine LoopW.unroll (fun X hX => ?_))
    | (refine hX _ _ ?_)
    | (with_reducible refine CallW.can (can_of_W known mix Try.func14 (by kernel_rfl) ok_lock_New (Nat.le_of_ble_eq_true rfl) ?_) (fun _ _ h => h))
    | (with_reducible refine CallW.can (can_of_W known mix Try.func15 (by kernel_rfl) ok_lock_Locks__Free (Nat.le_of_ble_eq_true rfl) ?_) (fun _ _ h => h))
    | (with_reducible refine CallW.can (can_of_W known mix Try.func16 (by kernel_rfl) ok_lock_Locks__Try (Nat.le_of_ble_eq_true rfl) ?_) (fun _ _ h => h))
    | (with_reducible refine CallW.can (can_of_W known mix Try.func55 (by kernel_rfl) ok_lock_Locks__may (Nat.le_of_ble_eq_true rfl) ?_) (fun _ _ h => h))
    | (with_reducible refine CallW.can (can_of_W known mix Try.func27 (by kernel_rfl) ok_lock_Locks__Spins (Nat.le_of_ble_eq_true rfl) ?_) (fun _ _ h => h))
    | (with_reducible refine CallW.can (can_of_W known mix Try.func51 (by kernel_rfl) ok_lock_NewWaits_string_ (Nat.le_of_ble_eq_true rfl) ?_) (fun _ _ h => h))
    | (with_reducible refine CallW.can (can_of_W known mix Try.func52 (by kernel_rfl) ok_lock_Waits_string___Sleep (Nat.le_of_ble_eq_true rfl) ?_) (fun _ _ h => h))
    | (with_reducible refine CallW.can (can_of_W known mix Try.func53 (by kernel_rfl) ok_lock_Waits_string___Wake (Nat.le_of_ble_eq_true rfl) ?_) (fun _ _ h => h))
    | (with_reducible refine CallW.can (can_of_W known mix Try.func72 (by kernel_rfl) ok_lock_Waits_string___Leave (Nat.le_of_ble_eq_true rfl) ?_) (fun _ _ h => h))
    | (with_reducible refine CallW.can (can_of_W known mix Try.func81 (by kernel_rfl) ok_lock_Waits_string___Leave_1 (Nat.le_of_ble_eq_true rfl) ?_) (fun _ _ h => h))
    | (with_reducible refine CallW.can (can_of_W known mix Try.func54 (by kernel_rfl) ok_slices_Repeat___int_int_ (Nat.le_of_ble_eq_true rfl) ?_) (fun _ _ h => h))
    | (with_reducible refine CallW.can (can_of_W known mix Try.func56 (by kernel_rfl) ok_slices_Clone___uint64_uint64_ (Nat.le_of_ble_eq_true rfl) ?_) (fun _ _ h => h))
    | (with_reducible refine CallW.can (can_of_W known mix Try.func57 (by kernel_rfl) ok_slices_DeleteFunc___uint64_uint64_ (Nat.le_of_ble_eq_true rfl) ?_) (fun _ _ h => h))
    | (with_reducible refine CallW.can (can_of_W known mix Try.func74 (by kernel_rfl) ok_slices_IndexFunc___uint64_uint64_ (Nat.le_of_ble_eq_true rfl) ?_) (fun _ _ h => h))
    | (with_reducible refine CallW.can (can_of_W known mix Try.func73 (by kernel_rfl) ok_bits_Mul (Nat.le_of_ble_eq_true rfl) ?_) (fun _ _ h => h))
    | (with_reducible refine CallW.can (can_of_W known mix Try.func82 (by kernel_rfl) ok_bits_Mul32 (Nat.le_of_ble_eq_true rfl) ?_) (fun _ _ h => h))
    | (with_reducible refine CallW.can (can_of_W known mix Try.func83 (by kernel_rfl) ok_bits_Mul64 (Nat.le_of_ble_eq_true rfl) ?_) (fun _ _ h => h))
    | ((with_reducible refine Test.tmodEqT ?_ ?_ ?_); omega; focus first | omega | assumption)
    | ((with_reducible refine Test.tmodEqF ?_ ?_ ?_); omega; focus first | omega | assumption)
    | ((with_reducible refine Test.tmodNeT ?_ ?_ ?_); omega; focus first | omega | assumption)
    | ((with_reducible refine Test.tmodNeF ?_ ?_ ?_); omega; focus first | omega | assumption)
    | ((with_reducible refine Test.tmodEq ?_ (fun h => ?_) (fun h => ?_)); omega)
    | ((with_reducible refine Test.tmodNe ?_ (fun h => ?_) (fun h => ?_)); omega)
    | ((with_reducible refine Test.notT ?_ ?_); focus assumption)
    | ((with_reducible refine Test.notF ?_ ?_); focus assumption)
    | (with_reducible refine Test.notIe (fun h => ?_) (fun h => ?_))
    | (with_reducible refine Test.notD (fun h => ?_) (fun h => ?_))
    | ((with_reducible refine Test.empty (fun h => ?_) (fun h => ?_)))
    | (with_reducible refine Test.tt ?_)
    | (with_reducible refine Test.ff ?_)
    | ((with_reducible refine Test.dt ?_ ?_); omega)
    | ((with_reducible refine Test.df ?_ ?_); omega)
    | (with_reducible refine Test.d (fun h => ?_) (fun h => ?_))
    | ((with_reducible refine Test.ieT ?_ ?_); omega)
    | ((with_reducible refine Test.ieF ?_ ?_); omega)
    | ((with_reducible refine Test.neT ?_ ?_); omega)
    | ((with_reducible refine Test.neF ?_ ?_); omega)
    | (with_reducible refine Test.ie (fun h => ?_) (fun h => ?_))
    | (with_reducible refine Test.ne (fun h => ?_) (fun h => ?_))
    | ((with_reducible refine Test.b ?_ ?_); (focus first | assumption | (simp [negB]; done) | exact rfl))
    | ((with_reducible refine Test.nb ?_ ?_); (focus first | assumption | (simp [negB]; done) | exact rfl))
    | (with_reducible refine Test.notS (fun h => ?_) (fun h => ?_))
    | (with_reducible refine Test.mk (fun h => ?_) (fun h => ?_))
    | ((with_reducible refine Arith.tdiv ?_ ?_); omega)
    | (with_reducible refine Arith.bv8 ?_)
    | (with_reducible refine Arith.bv16 ?_)
    | (with_reducible refine Arith.bv32 ?_)
    | (with_reducible refine Arith.bv64 ?_)
    | ((with_reducible refine Arith.i64 ?_ ?_); omega)
    | ((with_reducible refine Arith.u64 ?_ ?_); omega)
    | ((with_reducible refine Arith.u32 ?_ ?_); omega)
    | ((with_reducible refine Arith.u16 ?_ ?_); omega)
    | ((with_reducible refine Arith.u8 ?_ ?_); omega)
    | ((with_reducible refine Arith.i32 ?_ ?_); omega)
    | (with_reducible refine Arith.mk ?_)
    | (with_reducible refine Ends.mk ?_))
  all_goals first | exact ⟨rfl, rfl⟩
end G5w
end Go.Proofs.Ytmdfkggflainbaa.VM
