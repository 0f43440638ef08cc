/- law 18 by the evaluator: locks, over any state. -/
import Derived.Test.YtmdfkggflainbaaBase
import Derived.Test.YtmdfkggflainbaaP18
namespace Go.Proofs.Ytmdfkggflainbaa.VM
namespace G5
open Go.RowKit
set_option linter.unusedVariables false
set_option linter.unusedSimpArgs false
set_option maxRecDepth 100000
variable {G : Ground}
def vf_lock_Locks__may : VFn := ⟨(.seq (.reg [
    ⟨(some 6), .mv (.c (.p (.o (.int .i64 0)))), none, 0⟩] 0 none) (.seq (.block 0 (.seq (.reg [
    ⟨(some 8), .mv (.t 0), none, 0⟩,
    ⟨(some 9), .eq (.ref 0) false (.t 8) (.c (.p (.o (.nilp)))), none, 0⟩,
    ⟨(some 10), .mv (.t 9), none, 0⟩,
    ⟨(some 11), .mv (.t 0), (some (10, false)), 0⟩,
    ⟨(some 12), .nilc (.t 11), (some (10, false)), 0⟩,
    ⟨(some 13), .fad 0 (.t 12), (some (10, false)), 0⟩,
    ⟨(some 14), .ld none (.t 13), (some (10, false)), 0⟩,
    ⟨(some 15), .eq (.ref 1) false (.t 14) (.c (.p (.o (.nils)))), (some (10, false)), 0⟩,
    ⟨(some 16), .pick (.t 10) (.c (.p (.o (.bool true)))) (.t 15), none, 0⟩,
    ⟨(some 7), .mv (.t 16), none, 0⟩] 0 none) (.cond (.t 7) (.seq (.reg [
    ⟨(some 6), .mv (.c (.p (.o (.int .i64 1)))), none, 0⟩] 0 none) .ret) (.seq (.seq (.reg [
    ⟨(some 18), .mv (.t 1), none, 0⟩,
    ⟨(some 19), .bin .lss (.t 18) (.c (.p (.o (.int .i64 0)))), none, 0⟩,
    ⟨(some 17), .mv (.t 19), none, 0⟩] 0 none) (.cond (.t 17) .skip (.seq (.reg [
    ⟨(some 20), .mv (.t 1), none, 0⟩,
    ⟨(some 21), .mv (.t 0), none, 0⟩,
    ⟨(some 22), .nilc (.t 21), none, 0⟩,
    ⟨(some 23), .fad 0 (.t 22), none, 0⟩,
    ⟨(some 24), .ld none (.t 23), none, 0⟩,
    ⟨(some 25), .len true (.t 24), none, 0⟩,
    ⟨(some 26), .bin .geq (.t 20) (.t 25), none, 0⟩,
    ⟨(some 17), .mv (.t 26), none, 0⟩] 0 none) (.cond (.t 17) .skip (.seq (.reg [
    ⟨(some 27), .mv (.t 2), none, 0⟩,
    ⟨(some 28), .bin .lss (.t 27) (.c (.p (.o (.int .i64 0)))), none, 0⟩,
    ⟨(some 17), .mv (.t 28), none, 0⟩] 0 none) (.cond (.t 17) .skip (.reg [
    ⟨(some 29), .mv (.t 2), none, 0⟩,
    ⟨(some 30), .bin .geq (.t 29) (.c (.p (.o (.int .i64 8)))), none, 0⟩,
    ⟨(some 17), .mv (.t 30), none, 0⟩] 0 none))))))) (.cond (.t 17) (.seq (.reg [
    ⟨(some 6), .mv (.c (.p (.o (.int .i64 2)))), none, 0⟩] 0 none) .ret) .skip))))) (.seq (.reg [
    ⟨(some 6), .mv (.c (.p (.o (.int .i64 0)))), none, 0⟩] 0 none) .ret))),
  [.tmp 6], 31, [0, 1, 2, 6]⟩
theorem ok_lock_Locks__may : cFn Try.prog eqsT newsT vf_lock_Locks__may.keep Try.f55 = some vf_lock_Locks__may := by kernel_rfl
def vf_lock_Locks__Try : VFn := ⟨(.seq (.reg [
    ⟨(some 6), .mv (.c (.p (.o (.int .u8 0)))), none, 0⟩,
    ⟨(some 7), .mv (.c (.p (.o (.int .i64 0)))), none, 0⟩] 0 none) (.seq (.reg [
    ⟨(some 9), .mv (.t 0), none, 0⟩,
    ⟨(some 10), .mv (.t 1), none, 0⟩,
    ⟨(some 11), .mv (.t 2), none, 0⟩,
    ⟨(some 12), .call 55 [(.t 9), (.t 10), (.t 11)] 0, none, 0⟩,
    ⟨(some 8), .mv (.t 12), none, 0⟩] 0 none) (.seq (.block 0 (.seq (.reg [
    ⟨(some 14), .mv (.t 8), none, 0⟩,
    ⟨(some 15), .bin .neq (.t 14) (.c (.p (.o (.int .i64 0)))), none, 0⟩,
    ⟨(some 13), .mv (.t 15), none, 0⟩] 0 none) (.cond (.t 13) (.seq (.reg [
    ⟨(some 16), .mv (.t 8), none, 0⟩,
    ⟨(some 6), .mv (.c (.p (.o (.int .u8 0)))), none, 0⟩,
    ⟨(some 7), .mv (.t 16), none, 0⟩] 0 none) .ret) (.seq (.reg [
    ⟨(some 18), .mv (.t 0), none, 0⟩,
    ⟨(some 19), .nilc (.t 18), none, 0⟩,
    ⟨(some 20), .fad 0 (.t 19), none, 0⟩,
    ⟨(some 21), .ld none (.t 20), none, 0⟩,
    ⟨(some 22), .mv (.t 1), none, 0⟩,
    ⟨(some 23), .iad 1 (.t 21) (.t 22), none, 0⟩,
    ⟨(some 24), .ld none (.t 23), none, 0⟩,
    ⟨(some 25), .mv (.t 2), none, 0⟩,
    ⟨(some 26), .bin .eql (.t 24) (.t 25), none, 0⟩,
    ⟨(some 17), .mv (.t 26), none, 0⟩] 0 none) (.cond (.t 17) (.seq (.reg [
    ⟨(some 6), .mv (.c (.p (.o (.int .u8 2)))), none, 0⟩,
    ⟨(some 7), .mv (.c (.p (.o (.int .i64 0)))), none, 0⟩] 0 none) .ret) (.seq (.reg [
    ⟨(some 28), .mv (.t 0), none, 0⟩,
    ⟨(some 29), .mv (.t 2), none, 0⟩,
    ⟨(some 30), .nilc (.t 28), none, 0⟩,
    ⟨(some 31), .fad 1 (.t 30), none, 0⟩,
    ⟨(some 32), .iaa 8 1 (.t 31) (.t 29), none, 0⟩,
    ⟨(some 33), .ld none (.t 32), none, 0⟩,
    ⟨(some 34), .bin .geq (.t 33) (.c (.p (.o (.int .i64 0)))), none, 0⟩,
    ⟨(some 27), .mv (.t 34), none, 0⟩] 0 none) (.cond (.t 27) (.seq (.reg [
    ⟨(some 6), .mv (.c (.p (.o (.int .u8 0)))), none, 0⟩,
    ⟨(some 7), .mv (.c (.p (.o (.int .i64 3)))), none, 0⟩] 0 none) .ret) (.seq (.reg [
    ⟨(some 36), .mv (.t 0), none, 0⟩,
    ⟨(some 37), .nilc (.t 36), none, 0⟩,
    ⟨(some 38), .fad 0 (.t 37), none, 0⟩,
    ⟨(some 39), .ld none (.t 38), none, 0⟩,
    ⟨(some 40), .mv (.t 1), none, 0⟩,
    ⟨(some 41), .iad 1 (.t 39) (.t 40), none, 0⟩,
    ⟨(some 42), .ld none (.t 41), none, 0⟩,
    ⟨(some 43), .bin .geq (.t 42) (.c (.p (.o (.int .i64 0)))), none, 0⟩,
    ⟨(some 35), .mv (.t 43), none, 0⟩] 0 none) (.cond (.t 35) (.seq (.reg [
    ⟨(some 44), .mv (.t 0), none, 0⟩,
    ⟨(some 45), .mv (.t 2), none, 0⟩,
    ⟨(some 46), .nilc (.t 44), none, 0⟩,
    ⟨(some 47), .fad 9 (.t 46), none, 0⟩,
    ⟨(some 48), .iaa 8 1 (.t 47) (.t 45), none, 0⟩,
    ⟨(some 49), .ld none (.t 48), none, 0⟩,
    ⟨(some 50), .bin .add (.t 49) (.c (.p (.o (.int .u64 1)))), none, 0⟩,
    ⟨(some 51), .nilc (.t 44), none, 0⟩,
    ⟨(some 52), .fad 9 (.t 51), none, 0⟩,
    ⟨(some 53), .iaa 8 1 (.t 52) (.t 45), none, 0⟩,
    ⟨none, .st 1 (.t 53) (.t 50), none, 0⟩] 0 (some [(0, 1), (1, 2), (1, 3), (1, 7), (2, 7), (3, 7), (4, 7), (5, 7), (6, 7), (1, 8), (2, 8), (3, 8), (4, 8), (5, 8), (6, 8)])) (.seq (.reg [
    ⟨(some 6), .mv (.c (.p (.o (.int .u8 0)))), none, 0⟩,
    ⟨(some 7), .mv (.c (.p (.o (.int .i64 0)))), none, 0⟩] 0 none) .ret)) .skip))))))))) (.seq (.reg [
    ⟨(some 54), .mv (.t 0), none, 0⟩,
    ⟨(some 55), .nilc (.t 54), none, 0⟩,
    ⟨(some 56), .fad 0 (.t 55), none, 0⟩,
    ⟨(some 57), .ld none (.t 56), none, 0⟩,
    ⟨(some 58), .mv (.t 1), none, 0⟩,
    ⟨(some 59), .mv (.t 0), none, 0⟩,
    ⟨(some 60), .mv (.t 2), none, 0⟩,
    ⟨(some 61), .mv (.t 2), none, 0⟩,
    ⟨(some 62), .mv (.t 1), none, 0⟩,
    ⟨(some 63), .iad 1 (.t 57) (.t 58), none, 0⟩,
    ⟨none, .st 1 (.t 63) (.t 61), none, 0⟩,
    ⟨(some 64), .nilc (.t 59), none, 0⟩,
    ⟨(some 65), .fad 1 (.t 64), none, 0⟩,
    ⟨(some 66), .iaa 8 1 (.t 65) (.t 60), none, 0⟩,
    ⟨none, .st 1 (.t 66) (.t 62), none, 0⟩] 0 (some [(0, 4), (1, 4), (2, 4), (3, 4), (0, 5), (1, 5), (2, 5), (3, 5), (4, 5), (0, 6), (1, 6), (2, 6), (3, 6), (4, 6), (5, 6), (0, 7), (1, 7), (2, 7), (3, 7), (4, 7), (5, 7), (6, 7), (0, 8), (1, 8), (2, 8), (3, 8), (4, 8), (5, 8), (6, 8), (7, 8), (5, 9), (6, 9), (8, 9), (5, 10), (6, 10), (8, 10), (0, 11), (1, 11), (2, 11), (3, 11), (4, 11), (6, 11), (7, 11), (8, 11), (9, 11), (10, 11), (0, 12), (1, 12), (2, 12), (3, 12), (4, 12), (6, 12), (7, 12), (8, 12), (9, 12), (10, 12)])) (.seq (.reg [
    ⟨(some 6), .mv (.c (.p (.o (.int .u8 1)))), none, 0⟩,
    ⟨(some 7), .mv (.c (.p (.o (.int .i64 0)))), none, 0⟩] 0 none) .ret))))),
  [.tmp 6, .tmp 7], 67, [0, 1, 2, 6, 7, 8]⟩
theorem ok_lock_Locks__Try : cFn Try.prog eqsT newsT vf_lock_Locks__Try.keep Try.f16 = some vf_lock_Locks__Try := by kernel_rfl
def vf_lock_Locks__Free : VFn := ⟨(.seq (.reg [
    ⟨(some 6), .mv (.c (.p (.o (.int .i64 0)))), none, 0⟩] 0 none) (.seq (.reg [
    ⟨(some 8), .mv (.t 0), none, 0⟩,
    ⟨(some 9), .mv (.t 1), none, 0⟩,
    ⟨(some 10), .mv (.t 2), none, 0⟩,
    ⟨(some 11), .call 55 [(.t 8), (.t 9), (.t 10)] 0, none, 0⟩,
    ⟨(some 7), .mv (.t 11), none, 0⟩] 0 none) (.seq (.block 0 (.seq (.reg [
    ⟨(some 13), .mv (.t 7), none, 0⟩,
    ⟨(some 14), .bin .neq (.t 13) (.c (.p (.o (.int .i64 0)))), none, 0⟩,
    ⟨(some 12), .mv (.t 14), none, 0⟩] 0 none) (.cond (.t 12) (.seq (.reg [
    ⟨(some 15), .mv (.t 7), none, 0⟩,
    ⟨(some 6), .mv (.t 15), none, 0⟩] 0 none) .ret) (.seq (.reg [
    ⟨(some 17), .mv (.t 0), none, 0⟩,
    ⟨(some 18), .nilc (.t 17), none, 0⟩,
    ⟨(some 19), .fad 0 (.t 18), none, 0⟩,
    ⟨(some 20), .ld none (.t 19), none, 0⟩,
    ⟨(some 21), .mv (.t 1), none, 0⟩,
    ⟨(some 22), .iad 1 (.t 20) (.t 21), none, 0⟩,
    ⟨(some 23), .ld none (.t 22), none, 0⟩,
    ⟨(some 24), .mv (.t 2), none, 0⟩,
    ⟨(some 25), .bin .neq (.t 23) (.t 24), none, 0⟩,
    ⟨(some 16), .mv (.t 25), none, 0⟩] 0 none) (.cond (.t 16) (.seq (.reg [
    ⟨(some 6), .mv (.c (.p (.o (.int .i64 3)))), none, 0⟩] 0 none) .ret) .skip))))) (.seq (.reg [
    ⟨(some 26), .mv (.t 0), none, 0⟩,
    ⟨(some 27), .nilc (.t 26), none, 0⟩,
    ⟨(some 28), .fad 0 (.t 27), none, 0⟩,
    ⟨(some 29), .ld none (.t 28), none, 0⟩,
    ⟨(some 30), .mv (.t 1), none, 0⟩,
    ⟨(some 31), .mv (.t 0), none, 0⟩,
    ⟨(some 32), .mv (.t 2), none, 0⟩,
    ⟨(some 33), .iad 1 (.t 29) (.t 30), none, 0⟩,
    ⟨none, .st 1 (.t 33) (.c (.p (.o (.int .i64 (-1))))), none, 0⟩,
    ⟨(some 34), .nilc (.t 31), none, 0⟩,
    ⟨(some 35), .fad 1 (.t 34), none, 0⟩,
    ⟨(some 36), .iaa 8 1 (.t 35) (.t 32), none, 0⟩,
    ⟨none, .st 1 (.t 36) (.c (.p (.o (.int .i64 (-1))))), none, 0⟩] 0 (some [(0, 4), (1, 4), (2, 4), (3, 4), (0, 5), (1, 5), (2, 5), (3, 5), (4, 5), (0, 6), (1, 6), (2, 6), (3, 6), (4, 6), (5, 6), (5, 7), (6, 7), (5, 8), (6, 8), (0, 9), (1, 9), (2, 9), (3, 9), (4, 9), (6, 9), (7, 9), (8, 9), (0, 10), (1, 10), (2, 10), (3, 10), (4, 10), (6, 10), (7, 10), (8, 10)])) (.seq (.reg [
    ⟨(some 6), .mv (.c (.p (.o (.int .i64 0)))), none, 0⟩] 0 none) .ret))))),
  [.tmp 6], 37, [0, 1, 2, 6, 7]⟩
theorem ok_lock_Locks__Free : cFn Try.prog eqsT newsT vf_lock_Locks__Free.keep Try.f15 = some vf_lock_Locks__Free := by kernel_rfl
def vf_lock_Locks__Owner : VFn := ⟨(.seq (.reg [
    ⟨(some 4), .mv (.c (.p (.o (.int .i64 0)))), none, 0⟩,
    ⟨(some 5), .mv (.c (.p (.o (.bool false)))), none, 0⟩] 0 none) (.seq (.seq (.reg [
    ⟨(some 6), .mv (.t 0), none, 0⟩,
    ⟨(some 7), .mv (.t 1), none, 0⟩,
    ⟨(some 8), .call 55 [(.t 6), (.t 7), (.c (.p (.o (.int .i64 0))))] 0, none, 0⟩,
    ⟨(some 9), .bin .neq (.t 8) (.c (.p (.o (.int .i64 0)))), none, 0⟩,
    ⟨(some 10), .mv (.t 9), none, 0⟩,
    ⟨(some 11), .mv (.t 0), (some (10, false)), 0⟩,
    ⟨(some 12), .nilc (.t 11), (some (10, false)), 0⟩,
    ⟨(some 13), .fad 0 (.t 12), (some (10, false)), 0⟩,
    ⟨(some 14), .ld none (.t 13), (some (10, false)), 0⟩,
    ⟨(some 15), .mv (.t 1), (some (10, false)), 0⟩,
    ⟨(some 16), .iad 1 (.t 14) (.t 15), (some (10, false)), 0⟩,
    ⟨(some 17), .ld none (.t 16), (some (10, false)), 0⟩,
    ⟨(some 18), .bin .lss (.t 17) (.c (.p (.o (.int .i64 0)))), (some (10, false)), 0⟩,
    ⟨(some 19), .pick (.t 10) (.c (.p (.o (.bool true)))) (.t 18), none, 0⟩] 0 none) (.cond (.t 19) (.seq (.reg [
    ⟨(some 4), .mv (.c (.p (.o (.int .i64 0)))), none, 0⟩,
    ⟨(some 5), .mv (.c (.p (.o (.bool false)))), none, 0⟩] 0 none) .ret) .skip)) (.seq (.reg [
    ⟨(some 20), .mv (.t 0), none, 0⟩,
    ⟨(some 21), .nilc (.t 20), none, 0⟩,
    ⟨(some 22), .fad 0 (.t 21), none, 0⟩,
    ⟨(some 23), .ld none (.t 22), none, 0⟩,
    ⟨(some 24), .mv (.t 1), none, 0⟩,
    ⟨(some 25), .iad 1 (.t 23) (.t 24), none, 0⟩,
    ⟨(some 26), .ld none (.t 25), none, 0⟩,
    ⟨(some 4), .mv (.t 26), none, 0⟩,
    ⟨(some 5), .mv (.c (.p (.o (.bool true)))), none, 0⟩] 0 none) .ret))),
  [.tmp 4, .tmp 5], 27, [0, 1, 4, 5]⟩
theorem ok_lock_Locks__Owner : cFn Try.prog eqsT newsT vf_lock_Locks__Owner.keep Try.f24 = some vf_lock_Locks__Owner := by kernel_rfl
def vf_lock_Locks__Of : VFn := ⟨(.seq (.reg [
    ⟨(some 4), .mv (.c (.p (.o (.int .i64 0)))), none, 0⟩,
    ⟨(some 5), .mv (.c (.p (.o (.bool false)))), none, 0⟩] 0 none) (.seq (.seq (.reg [
    ⟨(some 6), .mv (.t 0), none, 0⟩,
    ⟨(some 7), .mv (.t 1), none, 0⟩,
    ⟨(some 8), .call 55 [(.t 6), (.c (.p (.o (.int .i64 0)))), (.t 7)] 0, none, 0⟩,
    ⟨(some 9), .bin .neq (.t 8) (.c (.p (.o (.int .i64 0)))), none, 0⟩,
    ⟨(some 10), .mv (.t 9), none, 0⟩,
    ⟨(some 11), .mv (.t 0), (some (10, false)), 0⟩,
    ⟨(some 12), .mv (.t 1), (some (10, false)), 0⟩,
    ⟨(some 13), .nilc (.t 11), (some (10, false)), 0⟩,
    ⟨(some 14), .fad 1 (.t 13), (some (10, false)), 0⟩,
    ⟨(some 15), .iaa 8 1 (.t 14) (.t 12), (some (10, false)), 0⟩,
    ⟨(some 16), .ld none (.t 15), (some (10, false)), 0⟩,
    ⟨(some 17), .bin .lss (.t 16) (.c (.p (.o (.int .i64 0)))), (some (10, false)), 0⟩,
    ⟨(some 18), .pick (.t 10) (.c (.p (.o (.bool true)))) (.t 17), none, 0⟩] 0 none) (.cond (.t 18) (.seq (.reg [
    ⟨(some 4), .mv (.c (.p (.o (.int .i64 0)))), none, 0⟩,
    ⟨(some 5), .mv (.c (.p (.o (.bool false)))), none, 0⟩] 0 none) .ret) .skip)) (.seq (.reg [
    ⟨(some 19), .mv (.t 0), none, 0⟩,
    ⟨(some 20), .mv (.t 1), none, 0⟩,
    ⟨(some 21), .nilc (.t 19), none, 0⟩,
    ⟨(some 22), .fad 1 (.t 21), none, 0⟩,
    ⟨(some 23), .iaa 8 1 (.t 22) (.t 20), none, 0⟩,
    ⟨(some 24), .ld none (.t 23), none, 0⟩,
    ⟨(some 4), .mv (.t 24), none, 0⟩,
    ⟨(some 5), .mv (.c (.p (.o (.bool true)))), none, 0⟩] 0 none) .ret))),
  [.tmp 4, .tmp 5], 25, [0, 1, 4, 5]⟩
theorem ok_lock_Locks__Of : cFn Try.prog eqsT newsT vf_lock_Locks__Of.keep Try.f25 = some vf_lock_Locks__Of := by kernel_rfl
def vf_lock_Locks__Spins : VFn := ⟨(.seq (.reg [
    ⟨(some 4), .mv (.c (.p (.o (.int .u64 0)))), none, 0⟩] 0 none) (.seq (.seq (.reg [
    ⟨(some 5), .mv (.t 0), none, 0⟩,
    ⟨(some 6), .mv (.t 1), none, 0⟩,
    ⟨(some 7), .call 55 [(.t 5), (.c (.p (.o (.int .i64 0)))), (.t 6)] 0, none, 0⟩,
    ⟨(some 8), .bin .neq (.t 7) (.c (.p (.o (.int .i64 0)))), none, 0⟩] 0 none) (.cond (.t 8) (.seq (.reg [
    ⟨(some 4), .mv (.c (.p (.o (.int .u64 0)))), none, 0⟩] 0 none) .ret) .skip)) (.seq (.reg [
    ⟨(some 9), .mv (.t 0), none, 0⟩,
    ⟨(some 10), .mv (.t 1), none, 0⟩,
    ⟨(some 11), .nilc (.t 9), none, 0⟩,
    ⟨(some 12), .fad 9 (.t 11), none, 0⟩,
    ⟨(some 13), .iaa 8 1 (.t 12) (.t 10), none, 0⟩,
    ⟨(some 14), .ld none (.t 13), none, 0⟩,
    ⟨(some 4), .mv (.t 14), none, 0⟩] 0 none) .ret))),
  [.tmp 4], 15, [0, 1, 4]⟩
theorem ok_lock_Locks__Spins : cFn Try.prog eqsT newsT vf_lock_Locks__Spins.keep Try.f27 = some vf_lock_Locks__Spins := by kernel_rfl
@[reducible] def lockSV (o sp : Nat → Int) (n : Nat) : List SV := [.slc 1 0 n (.is n), .int .i64 (o 0), .int .i64 (o 1), .int .i64 (o 2), .int .i64 (o 3), .int .i64 (o 4), .int .i64 (o 5), .int .i64 (o 6), .int .i64 (o 7), .int .u64 (sp 0), .int .u64 (sp 1), .int .u64 (sp 2), .int .u64 (sp 3), .int .u64 (sp 4), .int .u64 (sp 5), .int .u64 (sp 6), .int .u64 (sp 7)]
@[reducible] def lockM (s : LS) : List Row := [.row true false (lockSV s.of_ s.sp s.own.length), .row true true (i64SV s.own)]
theorem mk_eq (s : LS) : s = ⟨s.own, s.of_, s.sp⟩ := rfl
theorem eight {C : Int} (h : 0 ≤ C ∧ C < 8) : C = 0 ∨ C = 1 ∨ C = 2 ∨ C = 3 ∨ C = 4 ∨ C = 5 ∨ C = 6 ∨ C = 7 := by omega
theorem set_row (l : List Int) (L : Int) (v : Int) : setN (i64SV l) (0 + L.toNat * 1) [.int .i64 v] = i64SV (l.set L.toNat v) := by rw [setN_i64, Nat.zero_add, Nat.mul_one]

set_option maxHeartbeats 1000000 in
theorem may_det (s : LS) (L C : Int) : Det G Try.prog 55 [.o (.ptr 0 0), .o (.int .i64 L), .o (.int .i64 C)] (lockM s) (vI .i64 (if inN s.own.length L C then 0 else 2)) (lockM s) := by
  refine can_of_W known mix Try.func55 (by kernel_rfl) ok_lock_Locks__may (Nat.le_of_ble_eq_true rfl) ?_
  repeat' ((conv => whnf); first
    | ((with_reducible refine Look.mk ?_); refine ⟨_, rfl, ?_⟩)
    | ((with_reducible refine LookN.zeros ?_))
    | ((with_reducible refine LookN.bytes ?_ ?_); (simp; done))
    | ((with_reducible refine BytesW.bytes ?_))
    | ((with_reducible refine Look.byte ?_ ?_); omega)
    | ((with_reducible refine Look.setb ?_ ?_ ?_); exact bv8_bd _; omega)
    | ((with_reducible refine LookN.setb ?_ ?_ ?_); exact bv8_bd _; omega)
    | ((with_reducible refine LookN.mk ?_); refine ⟨_, rfl, ?_⟩)
    | ((with_reducible refine Need.mk ?_ ?_); first | ((with_reducible refine needB ?_); kernel_rfl) | with_reducible rfl | omega | (with_reducible refine ⟨rfl, ?_⟩; focus omega) | (simp only [ByteArray.size_append, size_lit, List.size_toArray, List.length_cons, List.length_nil]; omega) | exact rfl | trivial | exact Nat.le_of_ble_eq_true rfl | (exact ⟨rfl, by omega⟩) | (intro h; first | rfl | cases h) | (simp only [lenS_text, lenS_setN, lenS_zeros]; omega))
    | ((with_reducible refine BytesW.mk ?_); refine ⟨_, rfl, ?_⟩)
    | ((with_reducible refine WrT.same ?_ ?_); focus ((repeat ((conv => whnf); first | exact trivial | (apply And.intro; focus rfl))); done))
    | (with_reducible refine WrT.all ?_)
    | (with_reducible refine DropW.keep ?_)
    | ((with_reducible refine Test.tmodEqT ?_ ?_ ?_); omega; focus first | omega | assumption)
    | ((with_reducible refine Test.tmodEqF ?_ ?_ ?_); omega; focus first | omega | assumption)
    | ((with_reducible refine Test.tmodNeT ?_ ?_ ?_); omega; focus first | omega | assumption)
    | ((with_reducible refine Test.tmodNeF ?_ ?_ ?_); omega; focus first | omega | assumption)
    | ((with_reducible refine Test.tmodEq ?_ (fun h => ?_) (fun h => ?_)); omega)
    | ((with_reducible refine Test.tmodNe ?_ (fun h => ?_) (fun h => ?_)); omega)
    | ((with_reducible refine Test.notT ?_ ?_); focus assumption)
    | ((with_reducible refine Test.notF ?_ ?_); focus assumption)
    | (with_reducible refine Test.notIe (fun h => ?_) (fun h => ?_))
    | (with_reducible refine Test.notD (fun h => ?_) (fun h => ?_))
    | ((with_reducible refine Test.empty (fun h => ?_) (fun h => ?_)))
    | (with_reducible refine Test.tt ?_)
    | (with_reducible refine Test.ff ?_)
    | ((with_reducible refine Test.dt ?_ ?_); omega)
    | ((with_reducible refine Test.df ?_ ?_); omega)
    | (with_reducible refine Test.d (fun h => ?_) (fun h => ?_))
    | ((with_reducible refine Test.ieT ?_ ?_); omega)
    | ((with_reducible refine Test.ieF ?_ ?_); omega)
    | ((with_reducible refine Test.neT ?_ ?_); omega)
    | ((with_reducible refine Test.neF ?_ ?_); omega)
    | (with_reducible refine Test.ie (fun h => ?_) (fun h => ?_))
    | (with_reducible refine Test.ne (fun h => ?_) (fun h => ?_))
    | ((with_reducible refine Test.b ?_ ?_); (focus first | assumption | (simp [negB]; done) | exact rfl))
    | ((with_reducible refine Test.nb ?_ ?_); (focus first | assumption | (simp [negB]; done) | exact rfl))
    | (with_reducible refine Test.notS (fun h => ?_) (fun h => ?_))
    | (with_reducible refine Test.mk (fun h => ?_) (fun h => ?_))
    | ((with_reducible refine Arith.tdiv ?_ ?_); omega)
    | (with_reducible refine Arith.bv8 ?_)
    | (with_reducible refine Arith.bv16 ?_)
    | (with_reducible refine Arith.bv32 ?_)
    | (with_reducible refine Arith.bv64 ?_)
    | ((with_reducible refine Arith.i64 ?_ ?_); omega)
    | ((with_reducible refine Arith.u64 ?_ ?_); omega)
    | ((with_reducible refine Arith.u32 ?_ ?_); omega)
    | ((with_reducible refine Arith.u16 ?_ ?_); omega)
    | ((with_reducible refine Arith.u8 ?_ ?_); omega)
    | ((with_reducible refine Arith.i32 ?_ ?_); omega)
    | (with_reducible refine Arith.mk ?_)
    | (with_reducible refine Ends.mk ?_))
  all_goals first | (refine ⟨?_, rfl⟩; rw [if_pos ⟨by omega, by omega, by omega, by omega⟩]; done) | (refine ⟨?_, rfl⟩; rw [if_neg (fun ⟨a, b, c, d⟩ => by omega)]; done)
theorem may_ok {s : LS} {L C : Int} (h : inN s.own.length L C) : Det G Try.prog 55 [.o (.ptr 0 0), .o (.int .i64 L), .o (.int .i64 C)] (lockM s) (vI .i64 0) (lockM s) := by
  have k := may_det (G := G) s L C; rw [if_pos h] at k; exact k
theorem may_no {s : LS} {L C : Int} (h : ¬ inN s.own.length L C) : Det G Try.prog 55 [.o (.ptr 0 0), .o (.int .i64 L), .o (.int .i64 C)] (lockM s) (vI .i64 2) (lockM s) := by
  have k := may_det (G := G) s L C; rw [if_neg h] at k; exact k

set_option maxHeartbeats 8000000 in
theorem try_det (s : LS) (L C : Int) : Det G Try.prog 16 [.o (.ptr 0 0), .o (.int .i64 L), .o (.int .i64 C)] (lockM s) (.t [.o (.int .u8 (tryA s L C)), .o (.int .i64 (tryE s L C))]) [.row true false (lockSV (tryS s L C).of_ (tryS s L C).sp s.own.length), .row true true (i64SV (tryS s L C).own)] := by
  by_cases hin : inN s.own.length L C
  · have hin' := hin
    obtain ⟨a1, a2, a3, a4⟩ := hin'
    by_cases h1 : s.at L = C
    · rw [show tryA s L C = 2 by unfold tryA; rw [if_neg (not_not_intro hin), if_pos h1], show tryE s L C = 0 by unfold tryE; rw [if_neg (not_not_intro hin), if_pos h1], show tryS s L C = s by unfold tryS; rw [if_neg (not_not_intro hin), if_pos h1]]
      have h1 : s.own.getD L.toNat (-1) = C := h1
      refine can_of_W known mix Try.func16 (by kernel_rfl) ok_lock_Locks__Try (Nat.le_of_ble_eq_true rfl) ?_
      repeat' ((conv => whnf); first
    | ((with_reducible refine Look.mk ?_); refine ⟨_, rfl, ?_⟩)
    | ((with_reducible refine LookN.zeros ?_))
    | ((with_reducible refine LookN.bytes ?_ ?_); (simp; done))
    | ((with_reducible refine BytesW.bytes ?_))
    | ((with_reducible refine Look.byte ?_ ?_); omega)
    | ((with_reducible refine Look.setb ?_ ?_ ?_); exact bv8_bd _; omega)
    | ((with_reducible refine LookN.setb ?_ ?_ ?_); exact bv8_bd _; omega)
    | ((with_reducible refine LookN.mk ?_); refine ⟨_, rfl, ?_⟩)
    | ((with_reducible refine Need.mk ?_ ?_); first | ((with_reducible refine needB ?_); kernel_rfl) | with_reducible rfl | omega | (with_reducible refine ⟨rfl, ?_⟩; focus omega) | (simp only [ByteArray.size_append, size_lit, List.size_toArray, List.length_cons, List.length_nil]; omega) | exact rfl | trivial | exact Nat.le_of_ble_eq_true rfl | (exact ⟨rfl, by omega⟩) | (intro h; first | rfl | cases h) | (simp only [lenS_text, lenS_setN, lenS_zeros]; omega))
    | ((with_reducible refine BytesW.mk ?_); refine ⟨_, rfl, ?_⟩)
    | (with_reducible refine CallW.det (may_ok hin) ?_)
    | ((with_reducible refine WrT.same ?_ ?_); focus ((repeat ((conv => whnf); first | exact trivial | (apply And.intro; focus rfl))); done))
    | (with_reducible refine WrT.all ?_)
    | (with_reducible refine DropW.keep ?_)
    | ((with_reducible refine Need.mk ?_ ?_); focus (rw [lenS_i64]; omega))
    | (refine Look.i64x L ?_ ?_; (focus constructor <;> omega))
    | ((with_reducible refine Test.tmodEqT ?_ ?_ ?_); omega; focus first | omega | assumption)
    | ((with_reducible refine Test.tmodEqF ?_ ?_ ?_); omega; focus first | omega | assumption)
    | ((with_reducible refine Test.tmodNeT ?_ ?_ ?_); omega; focus first | omega | assumption)
    | ((with_reducible refine Test.tmodNeF ?_ ?_ ?_); omega; focus first | omega | assumption)
    | ((with_reducible refine Test.tmodEq ?_ (fun h => ?_) (fun h => ?_)); omega)
    | ((with_reducible refine Test.tmodNe ?_ (fun h => ?_) (fun h => ?_)); omega)
    | ((with_reducible refine Test.notT ?_ ?_); focus assumption)
    | ((with_reducible refine Test.notF ?_ ?_); focus assumption)
    | (with_reducible refine Test.notIe (fun h => ?_) (fun h => ?_))
    | (with_reducible refine Test.notD (fun h => ?_) (fun h => ?_))
    | ((with_reducible refine Test.empty (fun h => ?_) (fun h => ?_)))
    | (with_reducible refine Test.tt ?_)
    | (with_reducible refine Test.ff ?_)
    | ((with_reducible refine Test.dt ?_ ?_); omega)
    | ((with_reducible refine Test.df ?_ ?_); omega)
    | (with_reducible refine Test.d (fun h => ?_) (fun h => ?_))
    | ((with_reducible refine Test.ieT ?_ ?_); omega)
    | ((with_reducible refine Test.ieF ?_ ?_); omega)
    | ((with_reducible refine Test.neT ?_ ?_); omega)
    | ((with_reducible refine Test.neF ?_ ?_); omega)
    | (with_reducible refine Test.ie (fun h => ?_) (fun h => ?_))
    | (with_reducible refine Test.ne (fun h => ?_) (fun h => ?_))
    | ((with_reducible refine Test.b ?_ ?_); (focus first | assumption | (simp [negB]; done) | exact rfl))
    | ((with_reducible refine Test.nb ?_ ?_); (focus first | assumption | (simp [negB]; done) | exact rfl))
    | (with_reducible refine Test.notS (fun h => ?_) (fun h => ?_))
    | (with_reducible refine Test.mk (fun h => ?_) (fun h => ?_))
    | ((with_reducible refine Arith.tdiv ?_ ?_); omega)
    | (with_reducible refine Arith.bv8 ?_)
    | (with_reducible refine Arith.bv16 ?_)
    | (with_reducible refine Arith.bv32 ?_)
    | (with_reducible refine Arith.bv64 ?_)
    | ((with_reducible refine Arith.i64 ?_ ?_); omega)
    | ((with_reducible refine Arith.u64 ?_ ?_); omega)
    | ((with_reducible refine Arith.u32 ?_ ?_); omega)
    | ((with_reducible refine Arith.u16 ?_ ?_); omega)
    | ((with_reducible refine Arith.u8 ?_ ?_); omega)
    | ((with_reducible refine Arith.i32 ?_ ?_); omega)
    | (with_reducible refine Arith.mk ?_)
    | (with_reducible refine Ends.mk ?_))
      all_goals first | exact ⟨rfl, rfl⟩ | (refine ⟨rfl, ?_⟩; rw [set_row]; rfl) | (exfalso; omega)
    by_cases h2 : 0 ≤ s.of_ C.toNat
    · rw [show tryA s L C = 0 by unfold tryA; rw [if_neg (not_not_intro hin), if_neg h1, if_pos h2], show tryE s L C = 3 by unfold tryE; rw [if_neg (not_not_intro hin), if_neg h1, if_pos h2], show tryS s L C = s by unfold tryS; rw [if_neg (not_not_intro hin), if_neg h1, if_pos h2]]
      have h1 : ¬ s.own.getD L.toNat (-1) = C := h1
      rcases eight (C := C) (by omega) with rfl | rfl | rfl | rfl | rfl | rfl | rfl | rfl <;> (
        try simp only [show Int.toNat 0 = 0 from rfl, show Int.toNat 1 = 1 from rfl, show Int.toNat 2 = 2 from rfl, show Int.toNat 3 = 3 from rfl, show Int.toNat 4 = 4 from rfl, show Int.toNat 5 = 5 from rfl, show Int.toNat 6 = 6 from rfl, show Int.toNat 7 = 7 from rfl] at h2
        refine can_of_W known mix Try.func16 (by kernel_rfl) ok_lock_Locks__Try (Nat.le_of_ble_eq_true rfl) ?_
        repeat' ((conv => whnf); first
    | ((with_reducible refine Look.mk ?_); refine ⟨_, rfl, ?_⟩)
    | ((with_reducible refine LookN.zeros ?_))
    | ((with_reducible refine LookN.bytes ?_ ?_); (simp; done))
    | ((with_reducible refine BytesW.bytes ?_))
    | ((with_reducible refine Look.byte ?_ ?_); omega)
    | ((with_reducible refine Look.setb ?_ ?_ ?_); exact bv8_bd _; omega)
    | ((with_reducible refine LookN.setb ?_ ?_ ?_); exact bv8_bd _; omega)
    | ((with_reducible refine LookN.mk ?_); refine ⟨_, rfl, ?_⟩)
    | ((with_reducible refine Need.mk ?_ ?_); first | ((with_reducible refine needB ?_); kernel_rfl) | with_reducible rfl | omega | (with_reducible refine ⟨rfl, ?_⟩; focus omega) | (simp only [ByteArray.size_append, size_lit, List.size_toArray, List.length_cons, List.length_nil]; omega) | exact rfl | trivial | exact Nat.le_of_ble_eq_true rfl | (exact ⟨rfl, by omega⟩) | (intro h; first | rfl | cases h) | (simp only [lenS_text, lenS_setN, lenS_zeros]; omega))
    | ((with_reducible refine BytesW.mk ?_); refine ⟨_, rfl, ?_⟩)
    | (with_reducible refine CallW.det (may_ok hin) ?_)
    | ((with_reducible refine WrT.same ?_ ?_); focus ((repeat ((conv => whnf); first | exact trivial | (apply And.intro; focus rfl))); done))
    | (with_reducible refine WrT.all ?_)
    | (with_reducible refine DropW.keep ?_)
    | ((with_reducible refine Need.mk ?_ ?_); focus (rw [lenS_i64]; omega))
    | (refine Look.i64x L ?_ ?_; (focus constructor <;> omega))
    | ((with_reducible refine Test.tmodEqT ?_ ?_ ?_); omega; focus first | omega | assumption)
    | ((with_reducible refine Test.tmodEqF ?_ ?_ ?_); omega; focus first | omega | assumption)
    | ((with_reducible refine Test.tmodNeT ?_ ?_ ?_); omega; focus first | omega | assumption)
    | ((with_reducible refine Test.tmodNeF ?_ ?_ ?_); omega; focus first | omega | assumption)
    | ((with_reducible refine Test.tmodEq ?_ (fun h => ?_) (fun h => ?_)); omega)
    | ((with_reducible refine Test.tmodNe ?_ (fun h => ?_) (fun h => ?_)); omega)
    | ((with_reducible refine Test.notT ?_ ?_); focus assumption)
    | ((with_reducible refine Test.notF ?_ ?_); focus assumption)
    | (with_reducible refine Test.notIe (fun h => ?_) (fun h => ?_))
    | (with_reducible refine Test.notD (fun h => ?_) (fun h => ?_))
    | ((with_reducible refine Test.empty (fun h => ?_) (fun h => ?_)))
    | (with_reducible refine Test.tt ?_)
    | (with_reducible refine Test.ff ?_)
    | ((with_reducible refine Test.dt ?_ ?_); omega)
    | ((with_reducible refine Test.df ?_ ?_); omega)
    | (with_reducible refine Test.d (fun h => ?_) (fun h => ?_))
    | ((with_reducible refine Test.ieT ?_ ?_); omega)
    | ((with_reducible refine Test.ieF ?_ ?_); omega)
    | ((with_reducible refine Test.neT ?_ ?_); omega)
    | ((with_reducible refine Test.neF ?_ ?_); omega)
    | (with_reducible refine Test.ie (fun h => ?_) (fun h => ?_))
    | (with_reducible refine Test.ne (fun h => ?_) (fun h => ?_))
    | ((with_reducible refine Test.b ?_ ?_); (focus first | assumption | (simp [negB]; done) | exact rfl))
    | ((with_reducible refine Test.nb ?_ ?_); (focus first | assumption | (simp [negB]; done) | exact rfl))
    | (with_reducible refine Test.notS (fun h => ?_) (fun h => ?_))
    | (with_reducible refine Test.mk (fun h => ?_) (fun h => ?_))
    | ((with_reducible refine Arith.tdiv ?_ ?_); omega)
    | (with_reducible refine Arith.bv8 ?_)
    | (with_reducible refine Arith.bv16 ?_)
    | (with_reducible refine Arith.bv32 ?_)
    | (with_reducible refine Arith.bv64 ?_)
    | ((with_reducible refine Arith.i64 ?_ ?_); omega)
    | ((with_reducible refine Arith.u64 ?_ ?_); omega)
    | ((with_reducible refine Arith.u32 ?_ ?_); omega)
    | ((with_reducible refine Arith.u16 ?_ ?_); omega)
    | ((with_reducible refine Arith.u8 ?_ ?_); omega)
    | ((with_reducible refine Arith.i32 ?_ ?_); omega)
    | (with_reducible refine Arith.mk ?_)
    | (with_reducible refine Ends.mk ?_))
        all_goals first | exact ⟨rfl, rfl⟩ | (refine ⟨rfl, ?_⟩; rw [set_row]; rfl) | (exfalso; omega))
    by_cases h3 : 0 ≤ s.at L
    · rw [show tryA s L C = 0 by unfold tryA; rw [if_neg (not_not_intro hin), if_neg h1, if_neg h2, if_pos h3], show tryE s L C = 0 by unfold tryE; rw [if_neg (not_not_intro hin), if_neg h1, if_neg h2], show tryS s L C = ⟨s.own, s.of_, upd s.sp C.toNat (IntKind.u64.wrap (s.sp C.toNat + 1))⟩ by unfold tryS; rw [if_neg (not_not_intro hin), if_neg h1, if_neg h2, if_pos h3]]
      have h1 : ¬ s.own.getD L.toNat (-1) = C := h1
      have h3 : 0 ≤ s.own.getD L.toNat (-1) := h3
      rcases eight (C := C) (by omega) with rfl | rfl | rfl | rfl | rfl | rfl | rfl | rfl <;> (
        try simp only [show Int.toNat 0 = 0 from rfl, show Int.toNat 1 = 1 from rfl, show Int.toNat 2 = 2 from rfl, show Int.toNat 3 = 3 from rfl, show Int.toNat 4 = 4 from rfl, show Int.toNat 5 = 5 from rfl, show Int.toNat 6 = 6 from rfl, show Int.toNat 7 = 7 from rfl] at h2
        refine can_of_W known mix Try.func16 (by kernel_rfl) ok_lock_Locks__Try (Nat.le_of_ble_eq_true rfl) ?_
        repeat' ((conv => whnf); first
    | ((with_reducible refine Look.mk ?_); refine ⟨_, rfl, ?_⟩)
    | ((with_reducible refine LookN.zeros ?_))
    | ((with_reducible refine LookN.bytes ?_ ?_); (simp; done))
    | ((with_reducible refine BytesW.bytes ?_))
    | ((with_reducible refine Look.byte ?_ ?_); omega)
    | ((with_reducible refine Look.setb ?_ ?_ ?_); exact bv8_bd _; omega)
    | ((with_reducible refine LookN.setb ?_ ?_ ?_); exact bv8_bd _; omega)
    | ((with_reducible refine LookN.mk ?_); refine ⟨_, rfl, ?_⟩)
    | ((with_reducible refine Need.mk ?_ ?_); first | ((with_reducible refine needB ?_); kernel_rfl) | with_reducible rfl | omega | (with_reducible refine ⟨rfl, ?_⟩; focus omega) | (simp only [ByteArray.size_append, size_lit, List.size_toArray, List.length_cons, List.length_nil]; omega) | exact rfl | trivial | exact Nat.le_of_ble_eq_true rfl | (exact ⟨rfl, by omega⟩) | (intro h; first | rfl | cases h) | (simp only [lenS_text, lenS_setN, lenS_zeros]; omega))
    | ((with_reducible refine BytesW.mk ?_); refine ⟨_, rfl, ?_⟩)
    | (with_reducible refine CallW.det (may_ok hin) ?_)
    | ((with_reducible refine WrT.same ?_ ?_); focus ((repeat ((conv => whnf); first | exact trivial | (apply And.intro; focus rfl))); done))
    | (with_reducible refine WrT.all ?_)
    | (with_reducible refine DropW.keep ?_)
    | ((with_reducible refine Need.mk ?_ ?_); focus (rw [lenS_i64]; omega))
    | (refine Look.i64x L ?_ ?_; (focus constructor <;> omega))
    | ((with_reducible refine Test.tmodEqT ?_ ?_ ?_); omega; focus first | omega | assumption)
    | ((with_reducible refine Test.tmodEqF ?_ ?_ ?_); omega; focus first | omega | assumption)
    | ((with_reducible refine Test.tmodNeT ?_ ?_ ?_); omega; focus first | omega | assumption)
    | ((with_reducible refine Test.tmodNeF ?_ ?_ ?_); omega; focus first | omega | assumption)
    | ((with_reducible refine Test.tmodEq ?_ (fun h => ?_) (fun h => ?_)); omega)
    | ((with_reducible refine Test.tmodNe ?_ (fun h => ?_) (fun h => ?_)); omega)
    | ((with_reducible refine Test.notT ?_ ?_); focus assumption)
    | ((with_reducible refine Test.notF ?_ ?_); focus assumption)
    | (with_reducible refine Test.notIe (fun h => ?_) (fun h => ?_))
    | (with_reducible refine Test.notD (fun h => ?_) (fun h => ?_))
    | ((with_reducible refine Test.empty (fun h => ?_) (fun h => ?_)))
    | (with_reducible refine Test.tt ?_)
    | (with_reducible refine Test.ff ?_)
    | ((with_reducible refine Test.dt ?_ ?_); omega)
    | ((with_reducible refine Test.df ?_ ?_); omega)
    | (with_reducible refine Test.d (fun h => ?_) (fun h => ?_))
    | ((with_reducible refine Test.ieT ?_ ?_); omega)
    | ((with_reducible refine Test.ieF ?_ ?_); omega)
    | ((with_reducible refine Test.neT ?_ ?_); omega)
    | ((with_reducible refine Test.neF ?_ ?_); omega)
    | (with_reducible refine Test.ie (fun h => ?_) (fun h => ?_))
    | (with_reducible refine Test.ne (fun h => ?_) (fun h => ?_))
    | ((with_reducible refine Test.b ?_ ?_); (focus first | assumption | (simp [negB]; done) | exact rfl))
    | ((with_reducible refine Test.nb ?_ ?_); (focus first | assumption | (simp [negB]; done) | exact rfl))
    | (with_reducible refine Test.notS (fun h => ?_) (fun h => ?_))
    | (with_reducible refine Test.mk (fun h => ?_) (fun h => ?_))
    | ((with_reducible refine Arith.tdiv ?_ ?_); omega)
    | (with_reducible refine Arith.bv8 ?_)
    | (with_reducible refine Arith.bv16 ?_)
    | (with_reducible refine Arith.bv32 ?_)
    | (with_reducible refine Arith.bv64 ?_)
    | ((with_reducible refine Arith.i64 ?_ ?_); omega)
    | ((with_reducible refine Arith.u64 ?_ ?_); omega)
    | ((with_reducible refine Arith.u32 ?_ ?_); omega)
    | ((with_reducible refine Arith.u16 ?_ ?_); omega)
    | ((with_reducible refine Arith.u8 ?_ ?_); omega)
    | ((with_reducible refine Arith.i32 ?_ ?_); omega)
    | (with_reducible refine Arith.mk ?_)
    | (with_reducible refine Ends.mk ?_))
        all_goals first | exact ⟨rfl, rfl⟩ | (refine ⟨rfl, ?_⟩; rw [set_row]; rfl) | (exfalso; omega))
    rw [show tryA s L C = 1 by unfold tryA; rw [if_neg (not_not_intro hin), if_neg h1, if_neg h2, if_neg h3], show tryE s L C = 0 by unfold tryE; rw [if_neg (not_not_intro hin), if_neg h1, if_neg h2], show tryS s L C = ⟨s.own.set L.toNat C, upd s.of_ C.toNat L, s.sp⟩ by unfold tryS; rw [if_neg (not_not_intro hin), if_neg h1, if_neg h2, if_neg h3]]
    have h1 : ¬ s.own.getD L.toNat (-1) = C := h1
    have h3 : ¬ 0 ≤ s.own.getD L.toNat (-1) := h3
    rcases eight (C := C) (by omega) with rfl | rfl | rfl | rfl | rfl | rfl | rfl | rfl <;> (
      try simp only [show Int.toNat 0 = 0 from rfl, show Int.toNat 1 = 1 from rfl, show Int.toNat 2 = 2 from rfl, show Int.toNat 3 = 3 from rfl, show Int.toNat 4 = 4 from rfl, show Int.toNat 5 = 5 from rfl, show Int.toNat 6 = 6 from rfl, show Int.toNat 7 = 7 from rfl] at h2
      refine can_of_W known mix Try.func16 (by kernel_rfl) ok_lock_Locks__Try (Nat.le_of_ble_eq_true rfl) ?_
      repeat' ((conv => whnf); first
    | ((with_reducible refine Look.mk ?_); refine ⟨_, rfl, ?_⟩)
    | ((with_reducible refine LookN.zeros ?_))
    | ((with_reducible refine LookN.bytes ?_ ?_); (simp; done))
    | ((with_reducible refine BytesW.bytes ?_))
    | ((with_reducible refine Look.byte ?_ ?_); omega)
    | ((with_reducible refine Look.setb ?_ ?_ ?_); exact bv8_bd _; omega)
    | ((with_reducible refine LookN.setb ?_ ?_ ?_); exact bv8_bd _; omega)
    | ((with_reducible refine LookN.mk ?_); refine ⟨_, rfl, ?_⟩)
    | ((with_reducible refine Need.mk ?_ ?_); first | ((with_reducible refine needB ?_); kernel_rfl) | with_reducible rfl | omega | (with_reducible refine ⟨rfl, ?_⟩; focus omega) | (simp only [ByteArray.size_append, size_lit, List.size_toArray, List.length_cons, List.length_nil]; omega) | exact rfl | trivial | exact Nat.le_of_ble_eq_true rfl | (exact ⟨rfl, by omega⟩) | (intro h; first | rfl | cases h) | (simp only [lenS_text, lenS_setN, lenS_zeros]; omega))
    | ((with_reducible refine BytesW.mk ?_); refine ⟨_, rfl, ?_⟩)
    | (with_reducible refine CallW.det (may_ok hin) ?_)
    | ((with_reducible refine WrT.same ?_ ?_); focus ((repeat ((conv => whnf); first | exact trivial | (apply And.intro; focus rfl))); done))
    | (with_reducible refine WrT.all ?_)
    | (with_reducible refine DropW.keep ?_)
    | ((with_reducible refine Need.mk ?_ ?_); focus (rw [lenS_i64]; omega))
    | (refine Look.i64x L ?_ ?_; (focus constructor <;> omega))
    | ((with_reducible refine Test.tmodEqT ?_ ?_ ?_); omega; focus first | omega | assumption)
    | ((with_reducible refine Test.tmodEqF ?_ ?_ ?_); omega; focus first | omega | assumption)
    | ((with_reducible refine Test.tmodNeT ?_ ?_ ?_); omega; focus first | omega | assumption)
    | ((with_reducible refine Test.tmodNeF ?_ ?_ ?_); omega; focus first | omega | assumption)
    | ((with_reducible refine Test.tmodEq ?_ (fun h => ?_) (fun h => ?_)); omega)
    | ((with_reducible refine Test.tmodNe ?_ (fun h => ?_) (fun h => ?_)); omega)
    | ((with_reducible refine Test.notT ?_ ?_); focus assumption)
    | ((with_reducible refine Test.notF ?_ ?_); focus assumption)
    | (with_reducible refine Test.notIe (fun h => ?_) (fun h => ?_))
    | (with_reducible refine Test.notD (fun h => ?_) (fun h => ?_))
    | ((with_reducible refine Test.empty (fun h => ?_) (fun h => ?_)))
    | (with_reducible refine Test.tt ?_)
    | (with_reducible refine Test.ff ?_)
    | ((with_reducible refine Test.dt ?_ ?_); omega)
    | ((with_reducible refine Test.df ?_ ?_); omega)
    | (with_reducible refine Test.d (fun h => ?_) (fun h => ?_))
    | ((with_reducible refine Test.ieT ?_ ?_); omega)
    | ((with_reducible refine Test.ieF ?_ ?_); omega)
    | ((with_reducible refine Test.neT ?_ ?_); omega)
    | ((with_reducible refine Test.neF ?_ ?_); omega)
    | (with_reducible refine Test.ie (fun h => ?_) (fun h => ?_))
    | (with_reducible refine Test.ne (fun h => ?_) (fun h => ?_))
    | ((with_reducible refine Test.b ?_ ?_); (focus first | assumption | (simp [negB]; done) | exact rfl))
    | ((with_reducible refine Test.nb ?_ ?_); (focus first | assumption | (simp [negB]; done) | exact rfl))
    | (with_reducible refine Test.notS (fun h => ?_) (fun h => ?_))
    | (with_reducible refine Test.mk (fun h => ?_) (fun h => ?_))
    | ((with_reducible refine Arith.tdiv ?_ ?_); omega)
    | (with_reducible refine Arith.bv8 ?_)
    | (with_reducible refine Arith.bv16 ?_)
    | (with_reducible refine Arith.bv32 ?_)
    | (with_reducible refine Arith.bv64 ?_)
    | ((with_reducible refine Arith.i64 ?_ ?_); omega)
    | ((with_reducible refine Arith.u64 ?_ ?_); omega)
    | ((with_reducible refine Arith.u32 ?_ ?_); omega)
    | ((with_reducible refine Arith.u16 ?_ ?_); omega)
    | ((with_reducible refine Arith.u8 ?_ ?_); omega)
    | ((with_reducible refine Arith.i32 ?_ ?_); omega)
    | (with_reducible refine Arith.mk ?_)
    | (with_reducible refine Ends.mk ?_))
      all_goals first | exact ⟨rfl, rfl⟩ | (refine ⟨rfl, ?_⟩; rw [set_row]; rfl) | (exfalso; omega))
  · rw [show tryA s L C = 0 by unfold tryA; rw [if_pos hin], show tryE s L C = 2 by unfold tryE; rw [if_pos hin], show tryS s L C = s by unfold tryS; rw [if_pos hin]]
    refine can_of_W known mix Try.func16 (by kernel_rfl) ok_lock_Locks__Try (Nat.le_of_ble_eq_true rfl) ?_
    repeat' ((conv => whnf); first
    | ((with_reducible refine Look.mk ?_); refine ⟨_, rfl, ?_⟩)
    | ((with_reducible refine LookN.zeros ?_))
    | ((with_reducible refine LookN.bytes ?_ ?_); (simp; done))
    | ((with_reducible refine BytesW.bytes ?_))
    | ((with_reducible refine Look.byte ?_ ?_); omega)
    | ((with_reducible refine Look.setb ?_ ?_ ?_); exact bv8_bd _; omega)
    | ((with_reducible refine LookN.setb ?_ ?_ ?_); exact bv8_bd _; omega)
    | ((with_reducible refine LookN.mk ?_); refine ⟨_, rfl, ?_⟩)
    | ((with_reducible refine Need.mk ?_ ?_); first | ((with_reducible refine needB ?_); kernel_rfl) | with_reducible rfl | omega | (with_reducible refine ⟨rfl, ?_⟩; focus omega) | (simp only [ByteArray.size_append, size_lit, List.size_toArray, List.length_cons, List.length_nil]; omega) | exact rfl | trivial | exact Nat.le_of_ble_eq_true rfl | (exact ⟨rfl, by omega⟩) | (intro h; first | rfl | cases h) | (simp only [lenS_text, lenS_setN, lenS_zeros]; omega))
    | ((with_reducible refine BytesW.mk ?_); refine ⟨_, rfl, ?_⟩)
    | (with_reducible refine CallW.det (may_no hin) ?_)
    | ((with_reducible refine WrT.same ?_ ?_); focus ((repeat ((conv => whnf); first | exact trivial | (apply And.intro; focus rfl))); done))
    | (with_reducible refine WrT.all ?_)
    | (with_reducible refine DropW.keep ?_)
    | ((with_reducible refine Need.mk ?_ ?_); focus (rw [lenS_i64]; omega))
    | (refine Look.i64x L ?_ ?_; (focus constructor <;> omega))
    | ((with_reducible refine Test.tmodEqT ?_ ?_ ?_); omega; focus first | omega | assumption)
    | ((with_reducible refine Test.tmodEqF ?_ ?_ ?_); omega; focus first | omega | assumption)
    | ((with_reducible refine Test.tmodNeT ?_ ?_ ?_); omega; focus first | omega | assumption)
    | ((with_reducible refine Test.tmodNeF ?_ ?_ ?_); omega; focus first | omega | assumption)
    | ((with_reducible refine Test.tmodEq ?_ (fun h => ?_) (fun h => ?_)); omega)
    | ((with_reducible refine Test.tmodNe ?_ (fun h => ?_) (fun h => ?_)); omega)
    | ((with_reducible refine Test.notT ?_ ?_); focus assumption)
    | ((with_reducible refine Test.notF ?_ ?_); focus assumption)
    | (with_reducible refine Test.notIe (fun h => ?_) (fun h => ?_))
    | (with_reducible refine Test.notD (fun h => ?_) (fun h => ?_))
    | ((with_reducible refine Test.empty (fun h => ?_) (fun h => ?_)))
    | (with_reducible refine Test.tt ?_)
    | (with_reducible refine Test.ff ?_)
    | ((with_reducible refine Test.dt ?_ ?_); omega)
    | ((with_reducible refine Test.df ?_ ?_); omega)
    | (with_reducible refine Test.d (fun h => ?_) (fun h => ?_))
    | ((with_reducible refine Test.ieT ?_ ?_); omega)
    | ((with_reducible refine Test.ieF ?_ ?_); omega)
    | ((with_reducible refine Test.neT ?_ ?_); omega)
    | ((with_reducible refine Test.neF ?_ ?_); omega)
    | (with_reducible refine Test.ie (fun h => ?_) (fun h => ?_))
    | (with_reducible refine Test.ne (fun h => ?_) (fun h => ?_))
    | ((with_reducible refine Test.b ?_ ?_); (focus first | assumption | (simp [negB]; done) | exact rfl))
    | ((with_reducible refine Test.nb ?_ ?_); (focus first | assumption | (simp [negB]; done) | exact rfl))
    | (with_reducible refine Test.notS (fun h => ?_) (fun h => ?_))
    | (with_reducible refine Test.mk (fun h => ?_) (fun h => ?_))
    | ((with_reducible refine Arith.tdiv ?_ ?_); omega)
    | (with_reducible refine Arith.bv8 ?_)
    | (with_reducible refine Arith.bv16 ?_)
    | (with_reducible refine Arith.bv32 ?_)
    | (with_reducible refine Arith.bv64 ?_)
    | ((with_reducible refine Arith.i64 ?_ ?_); omega)
    | ((with_reducible refine Arith.u64 ?_ ?_); omega)
    | ((with_reducible refine Arith.u32 ?_ ?_); omega)
    | ((with_reducible refine Arith.u16 ?_ ?_); omega)
    | ((with_reducible refine Arith.u8 ?_ ?_); omega)
    | ((with_reducible refine Arith.i32 ?_ ?_); omega)
    | (with_reducible refine Arith.mk ?_)
    | (with_reducible refine Ends.mk ?_))
    all_goals first | exact ⟨rfl, rfl⟩ | (refine ⟨rfl, ?_⟩; rw [set_row]; rfl) | (exfalso; omega)

set_option maxHeartbeats 8000000 in
theorem free_det (s : LS) (L C : Int) : Det G Try.prog 15 [.o (.ptr 0 0), .o (.int .i64 L), .o (.int .i64 C)] (lockM s) (vI .i64 (freeE s L C)) [.row true false (lockSV (freeS s L C).of_ (freeS s L C).sp s.own.length), .row true true (i64SV (freeS s L C).own)] := by
  by_cases hin : inN s.own.length L C
  · have hin' := hin
    obtain ⟨a1, a2, a3, a4⟩ := hin'
    by_cases h1 : s.at L = C
    · rw [show freeE s L C = 0 by unfold freeE; rw [if_neg (not_not_intro hin), if_pos h1], show freeS s L C = ⟨s.own.set L.toNat (-1), upd s.of_ C.toNat (-1), s.sp⟩ by unfold freeS; rw [if_neg (not_not_intro hin), if_pos h1]]
      have h1 : s.own.getD L.toNat (-1) = C := h1
      rcases eight (C := C) (by omega) with rfl | rfl | rfl | rfl | rfl | rfl | rfl | rfl <;> (
        refine can_of_W known mix Try.func15 (by kernel_rfl) ok_lock_Locks__Free (Nat.le_of_ble_eq_true rfl) ?_
        repeat' ((conv => whnf); first
    | ((with_reducible refine Look.mk ?_); refine ⟨_, rfl, ?_⟩)
    | ((with_reducible refine LookN.zeros ?_))
    | ((with_reducible refine LookN.bytes ?_ ?_); (simp; done))
    | ((with_reducible refine BytesW.bytes ?_))
    | ((with_reducible refine Look.byte ?_ ?_); omega)
    | ((with_reducible refine Look.setb ?_ ?_ ?_); exact bv8_bd _; omega)
    | ((with_reducible refine LookN.setb ?_ ?_ ?_); exact bv8_bd _; omega)
    | ((with_reducible refine LookN.mk ?_); refine ⟨_, rfl, ?_⟩)
    | ((with_reducible refine Need.mk ?_ ?_); first | ((with_reducible refine needB ?_); kernel_rfl) | with_reducible rfl | omega | (with_reducible refine ⟨rfl, ?_⟩; focus omega) | (simp only [ByteArray.size_append, size_lit, List.size_toArray, List.length_cons, List.length_nil]; omega) | exact rfl | trivial | exact Nat.le_of_ble_eq_true rfl | (exact ⟨rfl, by omega⟩) | (intro h; first | rfl | cases h) | (simp only [lenS_text, lenS_setN, lenS_zeros]; omega))
    | ((with_reducible refine BytesW.mk ?_); refine ⟨_, rfl, ?_⟩)
    | (with_reducible refine CallW.det (may_ok hin) ?_)
    | ((with_reducible refine WrT.same ?_ ?_); focus ((repeat ((conv => whnf); first | exact trivial | (apply And.intro; focus rfl))); done))
    | (with_reducible refine WrT.all ?_)
    | (with_reducible refine DropW.keep ?_)
    | ((with_reducible refine Need.mk ?_ ?_); focus (rw [lenS_i64]; omega))
    | (refine Look.i64x L ?_ ?_; (focus constructor <;> omega))
    | ((with_reducible refine Test.tmodEqT ?_ ?_ ?_); omega; focus first | omega | assumption)
    | ((with_reducible refine Test.tmodEqF ?_ ?_ ?_); omega; focus first | omega | assumption)
    | ((with_reducible refine Test.tmodNeT ?_ ?_ ?_); omega; focus first | omega | assumption)
    | ((with_reducible refine Test.tmodNeF ?_ ?_ ?_); omega; focus first | omega | assumption)
    | ((with_reducible refine Test.tmodEq ?_ (fun h => ?_) (fun h => ?_)); omega)
    | ((with_reducible refine Test.tmodNe ?_ (fun h => ?_) (fun h => ?_)); omega)
    | ((with_reducible refine Test.notT ?_ ?_); focus assumption)
    | ((with_reducible refine Test.notF ?_ ?_); focus assumption)
    | (with_reducible refine Test.notIe (fun h => ?_) (fun h => ?_))
    | (with_reducible refine Test.notD (fun h => ?_) (fun h => ?_))
    | ((with_reducible refine Test.empty (fun h => ?_) (fun h => ?_)))
    | (with_reducible refine Test.tt ?_)
    | (with_reducible refine Test.ff ?_)
    | ((with_reducible refine Test.dt ?_ ?_); omega)
    | ((with_reducible refine Test.df ?_ ?_); omega)
    | (with_reducible refine Test.d (fun h => ?_) (fun h => ?_))
    | ((with_reducible refine Test.ieT ?_ ?_); omega)
    | ((with_reducible refine Test.ieF ?_ ?_); omega)
    | ((with_reducible refine Test.neT ?_ ?_); omega)
    | ((with_reducible refine Test.neF ?_ ?_); omega)
    | (with_reducible refine Test.ie (fun h => ?_) (fun h => ?_))
    | (with_reducible refine Test.ne (fun h => ?_) (fun h => ?_))
    | ((with_reducible refine Test.b ?_ ?_); (focus first | assumption | (simp [negB]; done) | exact rfl))
    | ((with_reducible refine Test.nb ?_ ?_); (focus first | assumption | (simp [negB]; done) | exact rfl))
    | (with_reducible refine Test.notS (fun h => ?_) (fun h => ?_))
    | (with_reducible refine Test.mk (fun h => ?_) (fun h => ?_))
    | ((with_reducible refine Arith.tdiv ?_ ?_); omega)
    | (with_reducible refine Arith.bv8 ?_)
    | (with_reducible refine Arith.bv16 ?_)
    | (with_reducible refine Arith.bv32 ?_)
    | (with_reducible refine Arith.bv64 ?_)
    | ((with_reducible refine Arith.i64 ?_ ?_); omega)
    | ((with_reducible refine Arith.u64 ?_ ?_); omega)
    | ((with_reducible refine Arith.u32 ?_ ?_); omega)
    | ((with_reducible refine Arith.u16 ?_ ?_); omega)
    | ((with_reducible refine Arith.u8 ?_ ?_); omega)
    | ((with_reducible refine Arith.i32 ?_ ?_); omega)
    | (with_reducible refine Arith.mk ?_)
    | (with_reducible refine Ends.mk ?_))
        all_goals first | exact ⟨rfl, rfl⟩ | (refine ⟨rfl, ?_⟩; rw [set_row]; rfl) | (exfalso; omega))
    rw [show freeE s L C = 3 by unfold freeE; rw [if_neg (not_not_intro hin), if_neg h1], show freeS s L C = s by unfold freeS; rw [if_neg (not_not_intro hin), if_neg h1]]
    have h1 : ¬ s.own.getD L.toNat (-1) = C := h1
    refine can_of_W known mix Try.func15 (by kernel_rfl) ok_lock_Locks__Free (Nat.le_of_ble_eq_true rfl) ?_
    repeat' ((conv => whnf); first
    | ((with_reducible refine Look.mk ?_); refine ⟨_, rfl, ?_⟩)
    | ((with_reducible refine LookN.zeros ?_))
    | ((with_reducible refine LookN.bytes ?_ ?_); (simp; done))
    | ((with_reducible refine BytesW.bytes ?_))
    | ((with_reducible refine Look.byte ?_ ?_); omega)
    | ((with_reducible refine Look.setb ?_ ?_ ?_); exact bv8_bd _; omega)
    | ((with_reducible refine LookN.setb ?_ ?_ ?_); exact bv8_bd _; omega)
    | ((with_reducible refine LookN.mk ?_); refine ⟨_, rfl, ?_⟩)
    | ((with_reducible refine Need.mk ?_ ?_); first | ((with_reducible refine needB ?_); kernel_rfl) | with_reducible rfl | omega | (with_reducible refine ⟨rfl, ?_⟩; focus omega) | (simp only [ByteArray.size_append, size_lit, List.size_toArray, List.length_cons, List.length_nil]; omega) | exact rfl | trivial | exact Nat.le_of_ble_eq_true rfl | (exact ⟨rfl, by omega⟩) | (intro h; first | rfl | cases h) | (simp only [lenS_text, lenS_setN, lenS_zeros]; omega))
    | ((with_reducible refine BytesW.mk ?_); refine ⟨_, rfl, ?_⟩)
    | (with_reducible refine CallW.det (may_ok hin) ?_)
    | ((with_reducible refine WrT.same ?_ ?_); focus ((repeat ((conv => whnf); first | exact trivial | (apply And.intro; focus rfl))); done))
    | (with_reducible refine WrT.all ?_)
    | (with_reducible refine DropW.keep ?_)
    | ((with_reducible refine Need.mk ?_ ?_); focus (rw [lenS_i64]; omega))
    | (refine Look.i64x L ?_ ?_; (focus constructor <;> omega))
    | ((with_reducible refine Test.tmodEqT ?_ ?_ ?_); omega; focus first | omega | assumption)
    | ((with_reducible refine Test.tmodEqF ?_ ?_ ?_); omega; focus first | omega | assumption)
    | ((with_reducible refine Test.tmodNeT ?_ ?_ ?_); omega; focus first | omega | assumption)
    | ((with_reducible refine Test.tmodNeF ?_ ?_ ?_); omega; focus first | omega | assumption)
    | ((with_reducible refine Test.tmodEq ?_ (fun h => ?_) (fun h => ?_)); omega)
    | ((with_reducible refine Test.tmodNe ?_ (fun h => ?_) (fun h => ?_)); omega)
    | ((with_reducible refine Test.notT ?_ ?_); focus assumption)
    | ((with_reducible refine Test.notF ?_ ?_); focus assumption)
    | (with_reducible refine Test.notIe (fun h => ?_) (fun h => ?_))
    | (with_reducible refine Test.notD (fun h => ?_) (fun h => ?_))
    | ((with_reducible refine Test.empty (fun h => ?_) (fun h => ?_)))
    | (with_reducible refine Test.tt ?_)
    | (with_reducible refine Test.ff ?_)
    | ((with_reducible refine Test.dt ?_ ?_); omega)
    | ((with_reducible refine Test.df ?_ ?_); omega)
    | (with_reducible refine Test.d (fun h => ?_) (fun h => ?_))
    | ((with_reducible refine Test.ieT ?_ ?_); omega)
    | ((with_reducible refine Test.ieF ?_ ?_); omega)
    | ((with_reducible refine Test.neT ?_ ?_); omega)
    | ((with_reducible refine Test.neF ?_ ?_); omega)
    | (with_reducible refine Test.ie (fun h => ?_) (fun h => ?_))
    | (with_reducible refine Test.ne (fun h => ?_) (fun h => ?_))
    | ((with_reducible refine Test.b ?_ ?_); (focus first | assumption | (simp [negB]; done) | exact rfl))
    | ((with_reducible refine Test.nb ?_ ?_); (focus first | assumption | (simp [negB]; done) | exact rfl))
    | (with_reducible refine Test.notS (fun h => ?_) (fun h => ?_))
    | (with_reducible refine Test.mk (fun h => ?_) (fun h => ?_))
    | ((with_reducible refine Arith.tdiv ?_ ?_); omega)
    | (with_reducible refine Arith.bv8 ?_)
    | (with_reducible refine Arith.bv16 ?_)
    | (with_reducible refine Arith.bv32 ?_)
    | (with_reducible refine Arith.bv64 ?_)
    | ((with_reducible refine Arith.i64 ?_ ?_); omega)
    | ((with_reducible refine Arith.u64 ?_ ?_); omega)
    | ((with_reducible refine Arith.u32 ?_ ?_); omega)
    | ((with_reducible refine Arith.u16 ?_ ?_); omega)
    | ((with_reducible refine Arith.u8 ?_ ?_); omega)
    | ((with_reducible refine Arith.i32 ?_ ?_); omega)
    | (with_reducible refine Arith.mk ?_)
    | (with_reducible refine Ends.mk ?_))
    all_goals first | exact ⟨rfl, rfl⟩ | (refine ⟨rfl, ?_⟩; rw [set_row]; rfl) | (exfalso; omega)
  · rw [show freeE s L C = 2 by unfold freeE; rw [if_pos hin], show freeS s L C = s by unfold freeS; rw [if_pos hin]]
    refine can_of_W known mix Try.func15 (by kernel_rfl) ok_lock_Locks__Free (Nat.le_of_ble_eq_true rfl) ?_
    repeat' ((conv => whnf); first
    | ((with_reducible refine Look.mk ?_); refine ⟨_, rfl, ?_⟩)
    | ((with_reducible refine LookN.zeros ?_))
    | ((with_reducible refine LookN.bytes ?_ ?_); (simp; done))
    | ((with_reducible refine BytesW.bytes ?_))
    | ((with_reducible refine Look.byte ?_ ?_); omega)
    | ((with_reducible refine Look.setb ?_ ?_ ?_); exact bv8_bd _; omega)
    | ((with_reducible refine LookN.setb ?_ ?_ ?_); exact bv8_bd _; omega)
    | ((with_reducible refine LookN.mk ?_); refine ⟨_, rfl, ?_⟩)
    | ((with_reducible refine Need.mk ?_ ?_); first | ((with_reducible refine needB ?_); kernel_rfl) | with_reducible rfl | omega | (with_reducible refine ⟨rfl, ?_⟩; focus omega) | (simp only [ByteArray.size_append, size_lit, List.size_toArray, List.length_cons, List.length_nil]; omega) | exact rfl | trivial | exact Nat.le_of_ble_eq_true rfl | (exact ⟨rfl, by omega⟩) | (intro h; first | rfl | cases h) | (simp only [lenS_text, lenS_setN, lenS_zeros]; omega))
    | ((with_reducible refine BytesW.mk ?_); refine ⟨_, rfl, ?_⟩)
    | (with_reducible refine CallW.det (may_no hin) ?_)
    | ((with_reducible refine WrT.same ?_ ?_); focus ((repeat ((conv => whnf); first | exact trivial | (apply And.intro; focus rfl))); done))
    | (with_reducible refine WrT.all ?_)
    | (with_reducible refine DropW.keep ?_)
    | ((with_reducible refine Need.mk ?_ ?_); focus (rw [lenS_i64]; omega))
    | (refine Look.i64x L ?_ ?_; (focus constructor <;> omega))
    | ((with_reducible refine Test.tmodEqT ?_ ?_ ?_); omega; focus first | omega | assumption)
    | ((with_reducible refine Test.tmodEqF ?_ ?_ ?_); omega; focus first | omega | assumption)
    | ((with_reducible refine Test.tmodNeT ?_ ?_ ?_); omega; focus first | omega | assumption)
    | ((with_reducible refine Test.tmodNeF ?_ ?_ ?_); omega; focus first | omega | assumption)
    | ((with_reducible refine Test.tmodEq ?_ (fun h => ?_) (fun h => ?_)); omega)
    | ((with_reducible refine Test.tmodNe ?_ (fun h => ?_) (fun h => ?_)); omega)
    | ((with_reducible refine Test.notT ?_ ?_); focus assumption)
    | ((with_reducible refine Test.notF ?_ ?_); focus assumption)
    | (with_reducible refine Test.notIe (fun h => ?_) (fun h => ?_))
    | (with_reducible refine Test.notD (fun h => ?_) (fun h => ?_))
    | ((with_reducible refine Test.empty (fun h => ?_) (fun h => ?_)))
    | (with_reducible refine Test.tt ?_)
    | (with_reducible refine Test.ff ?_)
    | ((with_reducible refine Test.dt ?_ ?_); omega)
    | ((with_reducible refine Test.df ?_ ?_); omega)
    | (with_reducible refine Test.d (fun h => ?_) (fun h => ?_))
    | ((with_reducible refine Test.ieT ?_ ?_); omega)
    | ((with_reducible refine Test.ieF ?_ ?_); omega)
    | ((with_reducible refine Test.neT ?_ ?_); omega)
    | ((with_reducible refine Test.neF ?_ ?_); omega)
    | (with_reducible refine Test.ie (fun h => ?_) (fun h => ?_))
    | (with_reducible refine Test.ne (fun h => ?_) (fun h => ?_))
    | ((with_reducible refine Test.b ?_ ?_); (focus first | assumption | (simp [negB]; done) | exact rfl))
    | ((with_reducible refine Test.nb ?_ ?_); (focus first | assumption | (simp [negB]; done) | exact rfl))
    | (with_reducible refine Test.notS (fun h => ?_) (fun h => ?_))
    | (with_reducible refine Test.mk (fun h => ?_) (fun h => ?_))
    | ((with_reducible refine Arith.tdiv ?_ ?_); omega)
    | (with_reducible refine Arith.bv8 ?_)
    | (with_reducible refine Arith.bv16 ?_)
    | (with_reducible refine Arith.bv32 ?_)
    | (with_reducible refine Arith.bv64 ?_)
    | ((with_reducible refine Arith.i64 ?_ ?_); omega)
    | ((with_reducible refine Arith.u64 ?_ ?_); omega)
    | ((with_reducible refine Arith.u32 ?_ ?_); omega)
    | ((with_reducible refine Arith.u16 ?_ ?_); omega)
    | ((with_reducible refine Arith.u8 ?_ ?_); omega)
    | ((with_reducible refine Arith.i32 ?_ ?_); omega)
    | (with_reducible refine Arith.mk ?_)
    | (with_reducible refine Ends.mk ?_))
    all_goals first | exact ⟨rfl, rfl⟩ | (refine ⟨rfl, ?_⟩; rw [set_row]; rfl) | (exfalso; omega)

set_option maxHeartbeats 2000000 in
theorem owner_det (s : LS) (L : Int) (h : 0 ≤ L ∧ L < s.own.length) : Det G Try.prog 24 [.o (.ptr 0 0), .o (.int .i64 L)] (lockM s) (.t [.o (.int .i64 (if s.at L < 0 then 0 else s.at L)), .o (.bool (decide (0 ≤ s.at L)))]) (lockM s) := by
  have hin : inN s.own.length L 0 := ⟨h.1, h.2, by omega, by omega⟩
  by_cases h1 : s.at L < 0
  · rw [if_pos h1, decide_eq_false (by omega)]
    have h1 : s.own.getD L.toNat (-1) < 0 := h1
    refine can_of_W known mix Try.func24 (by kernel_rfl) ok_lock_Locks__Owner (Nat.le_of_ble_eq_true rfl) ?_
    repeat' ((conv => whnf); first
    | ((with_reducible refine Look.mk ?_); refine ⟨_, rfl, ?_⟩)
    | ((with_reducible refine LookN.zeros ?_))
    | ((with_reducible refine LookN.bytes ?_ ?_); (simp; done))
    | ((with_reducible refine BytesW.bytes ?_))
    | ((with_reducible refine Look.byte ?_ ?_); omega)
    | ((with_reducible refine Look.setb ?_ ?_ ?_); exact bv8_bd _; omega)
    | ((with_reducible refine LookN.setb ?_ ?_ ?_); exact bv8_bd _; omega)
    | ((with_reducible refine LookN.mk ?_); refine ⟨_, rfl, ?_⟩)
    | ((with_reducible refine Need.mk ?_ ?_); first | ((with_reducible refine needB ?_); kernel_rfl) | with_reducible rfl | omega | (with_reducible refine ⟨rfl, ?_⟩; focus omega) | (simp only [ByteArray.size_append, size_lit, List.size_toArray, List.length_cons, List.length_nil]; omega) | exact rfl | trivial | exact Nat.le_of_ble_eq_true rfl | (exact ⟨rfl, by omega⟩) | (intro h; first | rfl | cases h) | (simp only [lenS_text, lenS_setN, lenS_zeros]; omega))
    | ((with_reducible refine BytesW.mk ?_); refine ⟨_, rfl, ?_⟩)
    | (with_reducible refine CallW.det (may_ok hin) ?_)
    | ((with_reducible refine WrT.same ?_ ?_); focus ((repeat ((conv => whnf); first | exact trivial | (apply And.intro; focus rfl))); done))
    | (with_reducible refine WrT.all ?_)
    | (with_reducible refine DropW.keep ?_)
    | ((with_reducible refine Need.mk ?_ ?_); focus (rw [lenS_i64]; omega))
    | (refine Look.i64x L ?_ ?_; (focus constructor <;> omega))
    | ((with_reducible refine Test.tmodEqT ?_ ?_ ?_); omega; focus first | omega | assumption)
    | ((with_reducible refine Test.tmodEqF ?_ ?_ ?_); omega; focus first | omega | assumption)
    | ((with_reducible refine Test.tmodNeT ?_ ?_ ?_); omega; focus first | omega | assumption)
    | ((with_reducible refine Test.tmodNeF ?_ ?_ ?_); omega; focus first | omega | assumption)
    | ((with_reducible refine Test.tmodEq ?_ (fun h => ?_) (fun h => ?_)); omega)
    | ((with_reducible refine Test.tmodNe ?_ (fun h => ?_) (fun h => ?_)); omega)
    | ((with_reducible refine Test.notT ?_ ?_); focus assumption)
    | ((with_reducible refine Test.notF ?_ ?_); focus assumption)
    | (with_reducible refine Test.notIe (fun h => ?_) (fun h => ?_))
    | (with_reducible refine Test.notD (fun h => ?_) (fun h => ?_))
    | ((with_reducible refine Test.empty (fun h => ?_) (fun h => ?_)))
    | (with_reducible refine Test.tt ?_)
    | (with_reducible refine Test.ff ?_)
    | ((with_reducible refine Test.dt ?_ ?_); omega)
    | ((with_reducible refine Test.df ?_ ?_); omega)
    | (with_reducible refine Test.d (fun h => ?_) (fun h => ?_))
    | ((with_reducible refine Test.ieT ?_ ?_); omega)
    | ((with_reducible refine Test.ieF ?_ ?_); omega)
    | ((with_reducible refine Test.neT ?_ ?_); omega)
    | ((with_reducible refine Test.neF ?_ ?_); omega)
    | (with_reducible refine Test.ie (fun h => ?_) (fun h => ?_))
    | (with_reducible refine Test.ne (fun h => ?_) (fun h => ?_))
    | ((with_reducible refine Test.b ?_ ?_); (focus first | assumption | (simp [negB]; done) | exact rfl))
    | ((with_reducible refine Test.nb ?_ ?_); (focus first | assumption | (simp [negB]; done) | exact rfl))
    | (with_reducible refine Test.notS (fun h => ?_) (fun h => ?_))
    | (with_reducible refine Test.mk (fun h => ?_) (fun h => ?_))
    | ((with_reducible refine Arith.tdiv ?_ ?_); omega)
    | (with_reducible refine Arith.bv8 ?_)
    | (with_reducible refine Arith.bv16 ?_)
    | (with_reducible refine Arith.bv32 ?_)
    | (with_reducible refine Arith.bv64 ?_)
    | ((with_reducible refine Arith.i64 ?_ ?_); omega)
    | ((with_reducible refine Arith.u64 ?_ ?_); omega)
    | ((with_reducible refine Arith.u32 ?_ ?_); omega)
    | ((with_reducible refine Arith.u16 ?_ ?_); omega)
    | ((with_reducible refine Arith.u8 ?_ ?_); omega)
    | ((with_reducible refine Arith.i32 ?_ ?_); omega)
    | (with_reducible refine Arith.mk ?_)
    | (with_reducible refine Ends.mk ?_))
    all_goals first | exact ⟨rfl, rfl⟩ | (refine ⟨rfl, ?_⟩; rw [set_row]; rfl) | (exfalso; omega)
  · rw [if_neg h1, decide_eq_true (by omega)]
    have h1 : ¬ s.own.getD L.toNat (-1) < 0 := h1
    refine can_of_W known mix Try.func24 (by kernel_rfl) ok_lock_Locks__Owner (Nat.le_of_ble_eq_true rfl) ?_
    repeat' ((conv => whnf); first
    | ((with_reducible refine Look.mk ?_); refine ⟨_, rfl, ?_⟩)
    | ((with_reducible refine LookN.zeros ?_))
    | ((with_reducible refine LookN.bytes ?_ ?_); (simp; done))
    | ((with_reducible refine BytesW.bytes ?_))
    | ((with_reducible refine Look.byte ?_ ?_); omega)
    | ((with_reducible refine Look.setb ?_ ?_ ?_); exact bv8_bd _; omega)
    | ((with_reducible refine LookN.setb ?_ ?_ ?_); exact bv8_bd _; omega)
    | ((with_reducible refine LookN.mk ?_); refine ⟨_, rfl, ?_⟩)
    | ((with_reducible refine Need.mk ?_ ?_); first | ((with_reducible refine needB ?_); kernel_rfl) | with_reducible rfl | omega | (with_reducible refine ⟨rfl, ?_⟩; focus omega) | (simp only [ByteArray.size_append, size_lit, List.size_toArray, List.length_cons, List.length_nil]; omega) | exact rfl | trivial | exact Nat.le_of_ble_eq_true rfl | (exact ⟨rfl, by omega⟩) | (intro h; first | rfl | cases h) | (simp only [lenS_text, lenS_setN, lenS_zeros]; omega))
    | ((with_reducible refine BytesW.mk ?_); refine ⟨_, rfl, ?_⟩)
    | (with_reducible refine CallW.det (may_ok hin) ?_)
    | ((with_reducible refine WrT.same ?_ ?_); focus ((repeat ((conv => whnf); first | exact trivial | (apply And.intro; focus rfl))); done))
    | (with_reducible refine WrT.all ?_)
    | (with_reducible refine DropW.keep ?_)
    | ((with_reducible refine Need.mk ?_ ?_); focus (rw [lenS_i64]; omega))
    | (refine Look.i64x L ?_ ?_; (focus constructor <;> omega))
    | ((with_reducible refine Test.tmodEqT ?_ ?_ ?_); omega; focus first | omega | assumption)
    | ((with_reducible refine Test.tmodEqF ?_ ?_ ?_); omega; focus first | omega | assumption)
    | ((with_reducible refine Test.tmodNeT ?_ ?_ ?_); omega; focus first | omega | assumption)
    | ((with_reducible refine Test.tmodNeF ?_ ?_ ?_); omega; focus first | omega | assumption)
    | ((with_reducible refine Test.tmodEq ?_ (fun h => ?_) (fun h => ?_)); omega)
    | ((with_reducible refine Test.tmodNe ?_ (fun h => ?_) (fun h => ?_)); omega)
    | ((with_reducible refine Test.notT ?_ ?_); focus assumption)
    | ((with_reducible refine Test.notF ?_ ?_); focus assumption)
    | (with_reducible refine Test.notIe (fun h => ?_) (fun h => ?_))
    | (with_reducible refine Test.notD (fun h => ?_) (fun h => ?_))
    | ((with_reducible refine Test.empty (fun h => ?_) (fun h => ?_)))
    | (with_reducible refine Test.tt ?_)
    | (with_reducible refine Test.ff ?_)
    | ((with_reducible refine Test.dt ?_ ?_); omega)
    | ((with_reducible refine Test.df ?_ ?_); omega)
    | (with_reducible refine Test.d (fun h => ?_) (fun h => ?_))
    | ((with_reducible refine Test.ieT ?_ ?_); omega)
    | ((with_reducible refine Test.ieF ?_ ?_); omega)
    | ((with_reducible refine Test.neT ?_ ?_); omega)
    | ((with_reducible refine Test.neF ?_ ?_); omega)
    | (with_reducible refine Test.ie (fun h => ?_) (fun h => ?_))
    | (with_reducible refine Test.ne (fun h => ?_) (fun h => ?_))
    | ((with_reducible refine Test.b ?_ ?_); (focus first | assumption | (simp [negB]; done) | exact rfl))
    | ((with_reducible refine Test.nb ?_ ?_); (focus first | assumption | (simp [negB]; done) | exact rfl))
    | (with_reducible refine Test.notS (fun h => ?_) (fun h => ?_))
    | (with_reducible refine Test.mk (fun h => ?_) (fun h => ?_))
    | ((with_reducible refine Arith.tdiv ?_ ?_); omega)
    | (with_reducible refine Arith.bv8 ?_)
    | (with_reducible refine Arith.bv16 ?_)
    | (with_reducible refine Arith.bv32 ?_)
    | (with_reducible refine Arith.bv64 ?_)
    | ((with_reducible refine Arith.i64 ?_ ?_); omega)
    | ((with_reducible refine Arith.u64 ?_ ?_); omega)
    | ((with_reducible refine Arith.u32 ?_ ?_); omega)
    | ((with_reducible refine Arith.u16 ?_ ?_); omega)
    | ((with_reducible refine Arith.u8 ?_ ?_); omega)
    | ((with_reducible refine Arith.i32 ?_ ?_); omega)
    | (with_reducible refine Arith.mk ?_)
    | (with_reducible refine Ends.mk ?_))
    all_goals first | exact ⟨rfl, rfl⟩ | (refine ⟨rfl, ?_⟩; rw [set_row]; rfl) | (exfalso; omega)

set_option maxHeartbeats 4000000 in
theorem of_det (s : LS) (c : Nat) (hc : c < 8) (hn : 0 < s.own.length) : Det G Try.prog 25 [.o (.ptr 0 0), .o (.int .i64 c)] (lockM s) (.t [.o (.int .i64 (if s.of_ c < 0 then 0 else s.of_ c)), .o (.bool (decide (0 ≤ s.of_ c)))]) (lockM s) := by
  have hin : inN s.own.length 0 c := ⟨by omega, by omega, by omega, by omega⟩
  by_cases h1 : s.of_ c < 0
  · rw [if_pos h1, decide_eq_false (by omega)]
    have h8 : c = 0 ∨ c = 1 ∨ c = 2 ∨ c = 3 ∨ c = 4 ∨ c = 5 ∨ c = 6 ∨ c = 7 := by omega
    rcases h8 with rfl | rfl | rfl | rfl | rfl | rfl | rfl | rfl <;> (
      refine can_of_W known mix Try.func25 (by kernel_rfl) ok_lock_Locks__Of (Nat.le_of_ble_eq_true rfl) ?_
      repeat' ((conv => whnf); first
    | ((with_reducible refine Look.mk ?_); refine ⟨_, rfl, ?_⟩)
    | ((with_reducible refine LookN.zeros ?_))
    | ((with_reducible refine LookN.bytes ?_ ?_); (simp; done))
    | ((with_reducible refine BytesW.bytes ?_))
    | ((with_reducible refine Look.byte ?_ ?_); omega)
    | ((with_reducible refine Look.setb ?_ ?_ ?_); exact bv8_bd _; omega)
    | ((with_reducible refine LookN.setb ?_ ?_ ?_); exact bv8_bd _; omega)
    | ((with_reducible refine LookN.mk ?_); refine ⟨_, rfl, ?_⟩)
    | ((with_reducible refine Need.mk ?_ ?_); first | ((with_reducible refine needB ?_); kernel_rfl) | with_reducible rfl | omega | (with_reducible refine ⟨rfl, ?_⟩; focus omega) | (simp only [ByteArray.size_append, size_lit, List.size_toArray, List.length_cons, List.length_nil]; omega) | exact rfl | trivial | exact Nat.le_of_ble_eq_true rfl | (exact ⟨rfl, by omega⟩) | (intro h; first | rfl | cases h) | (simp only [lenS_text, lenS_setN, lenS_zeros]; omega))
    | ((with_reducible refine BytesW.mk ?_); refine ⟨_, rfl, ?_⟩)
    | (with_reducible refine CallW.det (may_ok hin) ?_)
    | ((with_reducible refine WrT.same ?_ ?_); focus ((repeat ((conv => whnf); first | exact trivial | (apply And.intro; focus rfl))); done))
    | (with_reducible refine WrT.all ?_)
    | (with_reducible refine DropW.keep ?_)
    | ((with_reducible refine Need.mk ?_ ?_); focus (rw [lenS_i64]; omega))
    | (refine Look.i64x L ?_ ?_; (focus constructor <;> omega))
    | ((with_reducible refine Test.tmodEqT ?_ ?_ ?_); omega; focus first | omega | assumption)
    | ((with_reducible refine Test.tmodEqF ?_ ?_ ?_); omega; focus first | omega | assumption)
    | ((with_reducible refine Test.tmodNeT ?_ ?_ ?_); omega; focus first | omega | assumption)
    | ((with_reducible refine Test.tmodNeF ?_ ?_ ?_); omega; focus first | omega | assumption)
    | ((with_reducible refine Test.tmodEq ?_ (fun h => ?_) (fun h => ?_)); omega)
    | ((with_reducible refine Test.tmodNe ?_ (fun h => ?_) (fun h => ?_)); omega)
    | ((with_reducible refine Test.notT ?_ ?_); focus assumption)
    | ((with_reducible refine Test.notF ?_ ?_); focus assumption)
    | (with_reducible refine Test.notIe (fun h => ?_) (fun h => ?_))
    | (with_reducible refine Test.notD (fun h => ?_) (fun h => ?_))
    | ((with_reducible refine Test.empty (fun h => ?_) (fun h => ?_)))
    | (with_reducible refine Test.tt ?_)
    | (with_reducible refine Test.ff ?_)
    | ((with_reducible refine Test.dt ?_ ?_); omega)
    | ((with_reducible refine Test.df ?_ ?_); omega)
    | (with_reducible refine Test.d (fun h => ?_) (fun h => ?_))
    | ((with_reducible refine Test.ieT ?_ ?_); omega)
    | ((with_reducible refine Test.ieF ?_ ?_); omega)
    | ((with_reducible refine Test.neT ?_ ?_); omega)
    | ((with_reducible refine Test.neF ?_ ?_); omega)
    | (with_reducible refine Test.ie (fun h => ?_) (fun h => ?_))
    | (with_reducible refine Test.ne (fun h => ?_) (fun h => ?_))
    | ((with_reducible refine Test.b ?_ ?_); (focus first | assumption | (simp [negB]; done) | exact rfl))
    | ((with_reducible refine Test.nb ?_ ?_); (focus first | assumption | (simp [negB]; done) | exact rfl))
    | (with_reducible refine Test.notS (fun h => ?_) (fun h => ?_))
    | (with_reducible refine Test.mk (fun h => ?_) (fun h => ?_))
    | ((with_reducible refine Arith.tdiv ?_ ?_); omega)
    | (with_reducible refine Arith.bv8 ?_)
    | (with_reducible refine Arith.bv16 ?_)
    | (with_reducible refine Arith.bv32 ?_)
    | (with_reducible refine Arith.bv64 ?_)
    | ((with_reducible refine Arith.i64 ?_ ?_); omega)
    | ((with_reducible refine Arith.u64 ?_ ?_); omega)
    | ((with_reducible refine Arith.u32 ?_ ?_); omega)
    | ((with_reducible refine Arith.u16 ?_ ?_); omega)
    | ((with_reducible refine Arith.u8 ?_ ?_); omega)
    | ((with_reducible refine Arith.i32 ?_ ?_); omega)
    | (with_reducible refine Arith.mk ?_)
    | (with_reducible refine Ends.mk ?_))
      all_goals first | exact ⟨rfl, rfl⟩ | (refine ⟨rfl, ?_⟩; rw [set_row]; rfl) | (exfalso; omega))
  · rw [if_neg h1, decide_eq_true (by omega)]
    have h8 : c = 0 ∨ c = 1 ∨ c = 2 ∨ c = 3 ∨ c = 4 ∨ c = 5 ∨ c = 6 ∨ c = 7 := by omega
    rcases h8 with rfl | rfl | rfl | rfl | rfl | rfl | rfl | rfl <;> (
      refine can_of_W known mix Try.func25 (by kernel_rfl) ok_lock_Locks__Of (Nat.le_of_ble_eq_true rfl) ?_
      repeat' ((conv => whnf); first
    | ((with_reducible refine Look.mk ?_); refine ⟨_, rfl, ?_⟩)
    | ((with_reducible refine LookN.zeros ?_))
    | ((with_reducible refine LookN.bytes ?_ ?_); (simp; done))
    | ((with_reducible refine BytesW.bytes ?_))
    | ((with_reducible refine Look.byte ?_ ?_); omega)
    | ((with_reducible refine Look.setb ?_ ?_ ?_); exact bv8_bd _; omega)
    | ((with_reducible refine LookN.setb ?_ ?_ ?_); exact bv8_bd _; omega)
    | ((with_reducible refine LookN.mk ?_); refine ⟨_, rfl, ?_⟩)
    | ((with_reducible refine Need.mk ?_ ?_); first | ((with_reducible refine needB ?_); kernel_rfl) | with_reducible rfl | omega | (with_reducible refine ⟨rfl, ?_⟩; focus omega) | (simp only [ByteArray.size_append, size_lit, List.size_toArray, List.length_cons, List.length_nil]; omega) | exact rfl | trivial | exact Nat.le_of_ble_eq_true rfl | (exact ⟨rfl, by omega⟩) | (intro h; first | rfl | cases h) | (simp only [lenS_text, lenS_setN, lenS_zeros]; omega))
    | ((with_reducible refine BytesW.mk ?_); refine ⟨_, rfl, ?_⟩)
    | (with_reducible refine CallW.det (may_ok hin) ?_)
    | ((with_reducible refine WrT.same ?_ ?_); focus ((repeat ((conv => whnf); first | exact trivial | (apply And.intro; focus rfl))); done))
    | (with_reducible refine WrT.all ?_)
    | (with_reducible refine DropW.keep ?_)
    | ((with_reducible refine Need.mk ?_ ?_); focus (rw [lenS_i64]; omega))
    | (refine Look.i64x L ?_ ?_; (focus constructor <;> omega))
    | ((with_reducible refine Test.tmodEqT ?_ ?_ ?_); omega; focus first | omega | assumption)
    | ((with_reducible refine Test.tmodEqF ?_ ?_ ?_); omega; focus first | omega | assumption)
    | ((with_reducible refine Test.tmodNeT ?_ ?_ ?_); omega; focus first | omega | assumption)
    | ((with_reducible refine Test.tmodNeF ?_ ?_ ?_); omega; focus first | omega | assumption)
    | ((with_reducible refine Test.tmodEq ?_ (fun h => ?_) (fun h => ?_)); omega)
    | ((with_reducible refine Test.tmodNe ?_ (fun h => ?_) (fun h => ?_)); omega)
    | ((with_reducible refine Test.notT ?_ ?_); focus assumption)
    | ((with_reducible refine Test.notF ?_ ?_); focus assumption)
    | (with_reducible refine Test.notIe (fun h => ?_) (fun h => ?_))
    | (with_reducible refine Test.notD (fun h => ?_) (fun h => ?_))
    | ((with_reducible refine Test.empty (fun h => ?_) (fun h => ?_)))
    | (with_reducible refine Test.tt ?_)
    | (with_reducible refine Test.ff ?_)
    | ((with_reducible refine Test.dt ?_ ?_); omega)
    | ((with_reducible refine Test.df ?_ ?_); omega)
    | (with_reducible refine Test.d (fun h => ?_) (fun h => ?_))
    | ((with_reducible refine Test.ieT ?_ ?_); omega)
    | ((with_reducible refine Test.ieF ?_ ?_); omega)
    | ((with_reducible refine Test.neT ?_ ?_); omega)
    | ((with_reducible refine Test.neF ?_ ?_); omega)
    | (with_reducible refine Test.ie (fun h => ?_) (fun h => ?_))
    | (with_reducible refine Test.ne (fun h => ?_) (fun h => ?_))
    | ((with_reducible refine Test.b ?_ ?_); (focus first | assumption | (simp [negB]; done) | exact rfl))
    | ((with_reducible refine Test.nb ?_ ?_); (focus first | assumption | (simp [negB]; done) | exact rfl))
    | (with_reducible refine Test.notS (fun h => ?_) (fun h => ?_))
    | (with_reducible refine Test.mk (fun h => ?_) (fun h => ?_))
    | ((with_reducible refine Arith.tdiv ?_ ?_); omega)
    | (with_reducible refine Arith.bv8 ?_)
    | (with_reducible refine Arith.bv16 ?_)
    | (with_reducible refine Arith.bv32 ?_)
    | (with_reducible refine Arith.bv64 ?_)
    | ((with_reducible refine Arith.i64 ?_ ?_); omega)
    | ((with_reducible refine Arith.u64 ?_ ?_); omega)
    | ((with_reducible refine Arith.u32 ?_ ?_); omega)
    | ((with_reducible refine Arith.u16 ?_ ?_); omega)
    | ((with_reducible refine Arith.u8 ?_ ?_); omega)
    | ((with_reducible refine Arith.i32 ?_ ?_); omega)
    | (with_reducible refine Arith.mk ?_)
    | (with_reducible refine Ends.mk ?_))
      all_goals first | exact ⟨rfl, rfl⟩ | (refine ⟨rfl, ?_⟩; rw [set_row]; rfl) | (exfalso; omega))

set_option maxHeartbeats 4000000 in
theorem spins_det (s : LS) (c : Nat) (hc : c < 8) (hn : 0 < s.own.length) : Det G Try.prog 27 [.o (.ptr 0 0), .o (.int .i64 c)] (lockM s) (vI .u64 (s.sp c)) (lockM s) := by
  have hin : inN s.own.length 0 c := ⟨by omega, by omega, by omega, by omega⟩
  have h8 : c = 0 ∨ c = 1 ∨ c = 2 ∨ c = 3 ∨ c = 4 ∨ c = 5 ∨ c = 6 ∨ c = 7 := by omega
  rcases h8 with rfl | rfl | rfl | rfl | rfl | rfl | rfl | rfl <;> (
    refine can_of_W known mix Try.func27 (by kernel_rfl) ok_lock_Locks__Spins (Nat.le_of_ble_eq_true rfl) ?_
    repeat' ((conv => whnf); first
    | ((with_reducible refine Look.mk ?_); refine ⟨_, rfl, ?_⟩)
    | ((with_reducible refine LookN.zeros ?_))
    | ((with_reducible refine LookN.bytes ?_ ?_); (simp; done))
    | ((with_reducible refine BytesW.bytes ?_))
    | ((with_reducible refine Look.byte ?_ ?_); omega)
    | ((with_reducible refine Look.setb ?_ ?_ ?_); exact bv8_bd _; omega)
    | ((with_reducible refine LookN.setb ?_ ?_ ?_); exact bv8_bd _; omega)
    | ((with_reducible refine LookN.mk ?_); refine ⟨_, rfl, ?_⟩)
    | ((with_reducible refine Need.mk ?_ ?_); first | ((with_reducible refine needB ?_); kernel_rfl) | with_reducible rfl | omega | (with_reducible refine ⟨rfl, ?_⟩; focus omega) | (simp only [ByteArray.size_append, size_lit, List.size_toArray, List.length_cons, List.length_nil]; omega) | exact rfl | trivial | exact Nat.le_of_ble_eq_true rfl | (exact ⟨rfl, by omega⟩) | (intro h; first | rfl | cases h) | (simp only [lenS_text, lenS_setN, lenS_zeros]; omega))
    | ((with_reducible refine BytesW.mk ?_); refine ⟨_, rfl, ?_⟩)
    | (with_reducible refine CallW.det (may_ok hin) ?_)
    | ((with_reducible refine WrT.same ?_ ?_); focus ((repeat ((conv => whnf); first | exact trivial | (apply And.intro; focus rfl))); done))
    | (with_reducible refine WrT.all ?_)
    | (with_reducible refine DropW.keep ?_)
    | ((with_reducible refine Need.mk ?_ ?_); focus (rw [lenS_i64]; omega))
    | (refine Look.i64x L ?_ ?_; (focus constructor <;> omega))
    | ((with_reducible refine Test.tmodEqT ?_ ?_ ?_); omega; focus first | omega | assumption)
    | ((with_reducible refine Test.tmodEqF ?_ ?_ ?_); omega; focus first | omega | assumption)
    | ((with_reducible refine Test.tmodNeT ?_ ?_ ?_); omega; focus first | omega | assumption)
    | ((with_reducible refine Test.tmodNeF ?_ ?_ ?_); omega; focus first | omega | assumption)
    | ((with_reducible refine Test.tmodEq ?_ (fun h => ?_) (fun h => ?_)); omega)
    | ((with_reducible refine Test.tmodNe ?_ (fun h => ?_) (fun h => ?_)); omega)
    | ((with_reducible refine Test.notT ?_ ?_); focus assumption)
    | ((with_reducible refine Test.notF ?_ ?_); focus assumption)
    | (with_reducible refine Test.notIe (fun h => ?_) (fun h => ?_))
    | (with_reducible refine Test.notD (fun h => ?_) (fun h => ?_))
    | ((with_reducible refine Test.empty (fun h => ?_) (fun h => ?_)))
    | (with_reducible refine Test.tt ?_)
    | (with_reducible refine Test.ff ?_)
    | ((with_reducible refine Test.dt ?_ ?_); omega)
    | ((with_reducible refine Test.df ?_ ?_); omega)
    | (with_reducible refine Test.d (fun h => ?_) (fun h => ?_))
    | ((with_reducible refine Test.ieT ?_ ?_); omega)
    | ((with_reducible refine Test.ieF ?_ ?_); omega)
    | ((with_reducible refine Test.neT ?_ ?_); omega)
    | ((with_reducible refine Test.neF ?_ ?_); omega)
    | (with_reducible refine Test.ie (fun h => ?_) (fun h => ?_))
    | (with_reducible refine Test.ne (fun h => ?_) (fun h => ?_))
    | ((with_reducible refine Test.b ?_ ?_); (focus first | assumption | (simp [negB]; done) | exact rfl))
    | ((with_reducible refine Test.nb ?_ ?_); (focus first | assumption | (simp [negB]; done) | exact rfl))
    | (with_reducible refine Test.notS (fun h => ?_) (fun h => ?_))
    | (with_reducible refine Test.mk (fun h => ?_) (fun h => ?_))
    | ((with_reducible refine Arith.tdiv ?_ ?_); omega)
    | (with_reducible refine Arith.bv8 ?_)
    | (with_reducible refine Arith.bv16 ?_)
    | (with_reducible refine Arith.bv32 ?_)
    | (with_reducible refine Arith.bv64 ?_)
    | ((with_reducible refine Arith.i64 ?_ ?_); omega)
    | ((with_reducible refine Arith.u64 ?_ ?_); omega)
    | ((with_reducible refine Arith.u32 ?_ ?_); omega)
    | ((with_reducible refine Arith.u16 ?_ ?_); omega)
    | ((with_reducible refine Arith.u8 ?_ ?_); omega)
    | ((with_reducible refine Arith.i32 ?_ ?_); omega)
    | (with_reducible refine Arith.mk ?_)
    | (with_reducible refine Ends.mk ?_))
    all_goals first | exact ⟨rfl, rfl⟩ | (refine ⟨rfl, ?_⟩; rw [set_row]; rfl) | (exfalso; omega))

end G5
end Go.Proofs.Ytmdfkggflainbaa.VM
