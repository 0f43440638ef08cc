/- law 18 by the evaluator: no locks, no rows. -/
import Derived.Test.YtmdfkggflainbaaV18a
namespace Go.Proofs.Ytmdfkggflainbaa.VM
namespace G5
open Go.RowKit
set_option linter.unusedVariables false
set_option linter.unusedSimpArgs false
set_option maxRecDepth 100000
variable {G : Ground}
def vf_lock_Waits_int___Sleep : VFn := ⟨(.seq (.reg [
    ⟨(some 6), .mv (.c (.p (.o (.int .i64 0)))), none, 0⟩] 0 none) (.seq (.seq (.reg [
    ⟨(some 9), .mv (.t 0), none, 0⟩,
    ⟨(some 10), .eq (.ref 0) false (.t 9) (.c (.p (.o (.nilp)))), none, 0⟩,
    ⟨(some 11), .mv (.t 10), none, 0⟩,
    ⟨(some 12), .mv (.t 0), (some (11, false)), 0⟩,
    ⟨(some 13), .nilc (.t 12), (some (11, false)), 0⟩,
    ⟨(some 14), .fad 1 (.t 13), (some (11, false)), 0⟩,
    ⟨(some 15), .ld none (.t 14), (some (11, false)), 0⟩,
    ⟨(some 16), .eq (.ref 3) false (.t 15) (.c (.p (.o (.nilm)))), (some (11, false)), 0⟩,
    ⟨(some 17), .pick (.t 11) (.c (.p (.o (.bool true)))) (.t 16), none, 0⟩] 0 none) (.cond (.t 17) (.seq (.reg [
    ⟨(some 6), .mv (.c (.p (.o (.int .i64 1)))), none, 0⟩] 0 none) .ret) .skip)) (.seq (.reg [
    ⟨(some 19), .mv (.t 0), none, 0⟩,
    ⟨(some 20), .nilc (.t 19), none, 0⟩,
    ⟨(some 21), .fad 2 (.t 20), none, 0⟩,
    ⟨(some 22), .ld none (.t 21), none, 0⟩,
    ⟨(some 23), .mv (.t 2), none, 0⟩,
    ⟨(some 24), .mget false [.int .u64] (.o (.int .i64 0)) true (.t 22) (.t 23), none, 0⟩,
    ⟨(some 18), .mv (.t 24), none, 0⟩,
    ⟨(some 25), .ext 0 (.t 18), none, 0⟩,
    ⟨(some 26), .ext 1 (.t 18), none, 0⟩,
    ⟨(some 7), .mv (.t 25), none, 0⟩,
    ⟨(some 8), .mv (.t 26), none, 0⟩] 0 none) (.seq (.block 0 (.seq (.reg [
    ⟨(some 28), .mv (.t 8), none, 0⟩,
    ⟨(some 27), .mv (.t 28), none, 0⟩] 0 none) (.cond (.t 27) (.seq (.reg [
    ⟨(some 6), .mv (.c (.p (.o (.int .i64 7)))), none, 0⟩] 0 none) .ret) (.seq (.reg [
    ⟨(some 30), .mv (.t 0), none, 0⟩,
    ⟨(some 31), .nilc (.t 30), none, 0⟩,
    ⟨(some 32), .fad 2 (.t 31), none, 0⟩,
    ⟨(some 33), .ld none (.t 32), none, 0⟩,
    ⟨(some 34), .mlen (.t 33), none, 0⟩,
    ⟨(some 35), .mv (.t 0), none, 0⟩,
    ⟨(some 36), .nilc (.t 35), none, 0⟩,
    ⟨(some 37), .fad 0 (.t 36), none, 0⟩,
    ⟨(some 38), .ld none (.t 37), none, 0⟩,
    ⟨(some 39), .bin .geq (.t 34) (.t 38), none, 0⟩,
    ⟨(some 29), .mv (.t 39), none, 0⟩] 0 (some [(0, 5), (1, 5), (2, 5), (3, 5), (4, 5), (0, 6), (1, 6), (2, 6), (3, 6), (4, 6), (0, 7), (1, 7), (2, 7), (3, 7), (4, 7), (0, 8), (1, 8), (2, 8), (3, 8), (4, 8)])) (.cond (.t 29) (.seq (.reg [
    ⟨(some 6), .mv (.c (.p (.o (.int .i64 6)))), none, 0⟩] 0 none) .ret) .skip))))) (.seq (.reg [
    ⟨(some 40), .mv (.t 0), none, 0⟩,
    ⟨(some 41), .nilc (.t 40), none, 0⟩,
    ⟨(some 42), .fad 1 (.t 41), none, 0⟩,
    ⟨(some 43), .ld none (.t 42), none, 0⟩,
    ⟨(some 44), .mv (.t 1), none, 0⟩,
    ⟨(some 45), .mv (.t 0), none, 0⟩,
    ⟨(some 46), .nilc (.t 45), none, 0⟩,
    ⟨(some 47), .fad 1 (.t 46), none, 0⟩,
    ⟨(some 48), .ld none (.t 47), none, 0⟩,
    ⟨(some 49), .mv (.t 1), none, 0⟩,
    ⟨(some 50), .mget false [.int .i64] (.o (.nils)) false (.t 48) (.t 49), none, 0⟩,
    ⟨(some 51), .mv (.t 2), none, 0⟩,
    ⟨(some 52), .bsl 1 [.int .u64 0] [(0, 1, (.t 51))], none, 0⟩,
    ⟨(some 53), .app 1 8 (.t 50) (.t 52), none, 1⟩,
    ⟨none, .mset false [.int .i64] (.t 43) (.t 44) (.t 53), none, 2⟩] 2 (some [(0, 4), (1, 4), (2, 4), (3, 4), (0, 5), (1, 5), (2, 5), (3, 5), (4, 5), (0, 6), (1, 6), (2, 6), (3, 6), (4, 6), (0, 7), (1, 7), (2, 7), (3, 7), (4, 7), (0, 8), (1, 8), (2, 8), (3, 8), (4, 8), (0, 9), (1, 9), (2, 9), (3, 9), (4, 9), (5, 9), (6, 9), (7, 9), (8, 9), (0, 10), (1, 10), (2, 10), (3, 10), (4, 10), (0, 11), (1, 11), (2, 11), (3, 11), (4, 11), (5, 11), (6, 11), (7, 11), (8, 11), (9, 11), (10, 11), (0, 12), (1, 12), (2, 12), (3, 12), (4, 12), (5, 12), (6, 12), (7, 12), (8, 12), (9, 12), (10, 12), (0, 13), (1, 13), (2, 13), (3, 13), (4, 13)])) (.seq (.reg [
    ⟨(some 54), .mv (.t 0), none, 0⟩,
    ⟨(some 55), .nilc (.t 54), none, 0⟩,
    ⟨(some 56), .fad 2 (.t 55), none, 0⟩,
    ⟨(some 57), .ld none (.t 56), none, 0⟩,
    ⟨(some 58), .mv (.t 2), none, 0⟩,
    ⟨(some 59), .mv (.t 1), none, 0⟩,
    ⟨none, .mset false [.int .u64] (.t 57) (.t 58) (.t 59), none, 0⟩] 0 none) (.seq (.reg [
    ⟨(some 6), .mv (.c (.p (.o (.int .i64 0)))), none, 0⟩] 0 none) .ret))))))),
  [.tmp 6], 60, [0, 1, 2, 6, 8]⟩
theorem ok_lock_Waits_int___Sleep : cFn Try.prog eqsT newsT vf_lock_Waits_int___Sleep.keep Try.f33 = some vf_lock_Waits_int___Sleep := by kernel_rfl
def vf_lock_Waits_int___Wake : VFn := ⟨(.seq (.reg [
    ⟨(some 6), .mv (.c (.p (.o (.nils)))), none, 0⟩] 0 none) (.seq (.seq (.reg [
    ⟨(some 9), .mv (.t 0), none, 0⟩,
    ⟨(some 10), .eq (.ref 0) false (.t 9) (.c (.p (.o (.nilp)))), none, 0⟩,
    ⟨(some 11), .mv (.t 10), none, 0⟩,
    ⟨(some 12), .mv (.t 0), (some (11, false)), 0⟩,
    ⟨(some 13), .nilc (.t 12), (some (11, false)), 0⟩,
    ⟨(some 14), .fad 1 (.t 13), (some (11, false)), 0⟩,
    ⟨(some 15), .ld none (.t 14), (some (11, false)), 0⟩,
    ⟨(some 16), .eq (.ref 3) false (.t 15) (.c (.p (.o (.nilm)))), (some (11, false)), 0⟩,
    ⟨(some 17), .pick (.t 11) (.c (.p (.o (.bool true)))) (.t 16), none, 0⟩] 0 none) (.cond (.t 17) (.seq (.reg [
    ⟨(some 6), .mv (.c (.p (.o (.nils)))), none, 0⟩] 0 none) .ret) .skip)) (.seq (.reg [
    ⟨(some 18), .mv (.t 0), none, 0⟩,
    ⟨(some 19), .nilc (.t 18), none, 0⟩,
    ⟨(some 20), .fad 1 (.t 19), none, 0⟩,
    ⟨(some 21), .ld none (.t 20), none, 0⟩,
    ⟨(some 22), .mv (.t 1), none, 0⟩,
    ⟨(some 23), .mget false [.int .i64] (.o (.nils)) false (.t 21) (.t 22), none, 0⟩,
    ⟨(some 7), .mv (.t 23), none, 0⟩] 0 none) (.seq (.reg [
    ⟨(some 24), .mv (.t 2), none, 0⟩,
    ⟨(some 25), .mnx true (.t 24) (.c (.p (.o (.int .i64 0)))), none, 0⟩,
    ⟨(some 26), .mv (.t 7), none, 0⟩,
    ⟨(some 27), .len true (.t 26), none, 0⟩,
    ⟨(some 28), .mnx false (.t 25) (.t 27), none, 0⟩,
    ⟨(some 2), .mv (.t 28), none, 0⟩] 0 none) (.seq (.reg [
    ⟨(some 29), .mv (.t 7), none, 0⟩,
    ⟨(some 30), .mv (.t 2), none, 0⟩,
    ⟨(some 31), .sll 1 (.t 29) none (some (.t 30)), none, 0⟩,
    ⟨(some 32), .call 56 [(.t 31)] 1, none, 0⟩,
    ⟨(some 8), .mv (.t 32), none, 1⟩] 1 none) (.seq (.reg [
    ⟨(some 33), .mv (.t 0), none, 0⟩,
    ⟨(some 34), .mv (.t 8), none, 0⟩,
    ⟨(some 35), .call 31 [(.t 33), (.t 34)] 0, none, 0⟩] 0 none) (.seq (.reg [
    ⟨(some 36), .mv (.t 8), none, 0⟩,
    ⟨(some 6), .mv (.t 36), none, 0⟩] 0 none) .ret))))))),
  [.tmp 6], 37, [0, 1, 2, 6, 7, 8]⟩
theorem ok_lock_Waits_int___Wake : cFn Try.prog eqsT newsT vf_lock_Waits_int___Wake.keep Try.f29 = some vf_lock_Waits_int___Wake := by kernel_rfl
def vf_lock_Waits_int___Leave : VFn := ⟨(.seq (.reg [
    ⟨(some 4), .mv (.c (.p (.o (.int .i64 0)))), none, 0⟩] 0 none) (.seq (.seq (.reg [
    ⟨(some 9), .mv (.t 0), none, 0⟩,
    ⟨(some 10), .eq (.ref 0) false (.t 9) (.c (.p (.o (.nilp)))), none, 0⟩] 0 none) (.cond (.t 10) (.seq (.reg [
    ⟨(some 4), .mv (.c (.p (.o (.int .i64 0)))), none, 0⟩] 0 none) .ret) .skip)) (.seq (.seq (.reg [
    ⟨(some 11), .mv (.t 1), none, 0⟩,
    ⟨(some 12), .len true (.t 11), none, 0⟩,
    ⟨(some 13), .mv (.c (.p (.o (.int .i64 0)))), none, 0⟩] 0 none) (.block 0 (.loop (.seq (.reg [
    ⟨(some 14), .bin .lss (.t 13) (.t 12), none, 0⟩] 0 none) (.seq (.cond (.t 14) .skip (.exit 0)) (.seq (.block 1 (.seq (.reg [
    ⟨(some 15), .iad 1 (.t 11) (.t 13), none, 0⟩,
    ⟨(some 16), .ld none (.t 15), none, 0⟩,
    ⟨(some 6), .new [.int .u64 0], none, 0⟩,
    ⟨none, .st 1 (.t 6) (.t 16), none, 1⟩] 1 none) (.seq (.reg [
    ⟨(some 18), .mv (.t 0), none, 0⟩,
    ⟨(some 19), .nilc (.t 18), none, 0⟩,
    ⟨(some 20), .fad 2 (.t 19), none, 0⟩,
    ⟨(some 21), .ld none (.t 20), none, 0⟩,
    ⟨(some 22), .ld none (.t 6), none, 0⟩,
    ⟨(some 23), .mget false [.int .u64] (.o (.int .i64 0)) true (.t 21) (.t 22), none, 0⟩,
    ⟨(some 17), .mv (.t 23), none, 0⟩,
    ⟨(some 24), .ext 0 (.t 17), none, 0⟩,
    ⟨(some 25), .ext 1 (.t 17), none, 0⟩,
    ⟨(some 7), .mv (.t 24), none, 0⟩,
    ⟨(some 8), .mv (.t 25), none, 0⟩] 0 (some [(0, 4), (1, 4), (2, 4), (3, 4), (7, 8), (8, 9)])) (.seq (.seq (.reg [
    ⟨(some 26), .mv (.t 8), none, 0⟩,
    ⟨(some 27), .un .not (.t 26), none, 0⟩] 0 none) (.cond (.t 27) (.exit 1) .skip)) (.seq (.reg [
    ⟨(some 28), .mv (.t 0), none, 0⟩,
    ⟨(some 29), .nilc (.t 28), none, 0⟩,
    ⟨(some 30), .fad 1 (.t 29), none, 0⟩,
    ⟨(some 31), .ld none (.t 30), none, 0⟩,
    ⟨(some 32), .mv (.t 7), none, 0⟩,
    ⟨(some 33), .mv (.t 0), none, 0⟩,
    ⟨(some 34), .nilc (.t 33), none, 0⟩,
    ⟨(some 35), .fad 1 (.t 34), none, 0⟩,
    ⟨(some 36), .ld none (.t 35), none, 0⟩,
    ⟨(some 37), .mv (.t 7), none, 0⟩,
    ⟨(some 38), .mget false [.int .i64] (.o (.nils)) false (.t 36) (.t 37), none, 0⟩,
    ⟨(some 39), .mkf 60 [(.t 6)], none, 0⟩,
    ⟨(some 40), .call 57 [(.t 38), (.t 39)] 0, none, 0⟩,
    ⟨none, .mset false [.int .i64] (.t 31) (.t 32) (.t 40), none, 0⟩] 0 (some [(0, 4), (1, 4), (2, 4), (3, 4), (0, 5), (1, 5), (2, 5), (3, 5), (4, 5), (0, 6), (1, 6), (2, 6), (3, 6), (4, 6), (0, 7), (1, 7), (2, 7), (3, 7), (4, 7), (0, 8), (1, 8), (2, 8), (3, 8), (4, 8), (0, 9), (1, 9), (2, 9), (3, 9), (4, 9), (5, 9), (6, 9), (7, 9), (8, 9), (0, 10), (1, 10), (2, 10), (3, 10), (4, 10), (0, 11), (1, 11), (2, 11), (3, 11), (4, 11), (5, 11), (6, 11), (7, 11), (8, 11), (9, 11), (10, 11), (0, 12), (1, 12), (2, 12), (3, 12), (4, 12)])) (.seq (.reg [
    ⟨(some 41), .mv (.t 0), none, 0⟩,
    ⟨(some 42), .nilc (.t 41), none, 0⟩,
    ⟨(some 43), .fad 2 (.t 42), none, 0⟩,
    ⟨(some 44), .ld none (.t 43), none, 0⟩,
    ⟨(some 45), .ld none (.t 6), none, 0⟩,
    ⟨none, .mdel false [.int .u64] (.t 44) (.t 45), none, 0⟩] 0 (some [(0, 4), (1, 4), (2, 4), (3, 4)])) (.reg [
    ⟨(some 46), .mv (.t 4), none, 0⟩,
    ⟨(some 47), .bin .add (.t 46) (.c (.p (.o (.int .i64 1)))), none, 0⟩,
    ⟨(some 4), .mv (.t 47), none, 0⟩] 0 none))))))) (.reg [
    ⟨(some 48), .bin .add (.t 13) (.c (.p (.o (.int .i64 1)))), none, 0⟩,
    ⟨(some 13), .mv (.t 48), none, 0⟩] 0 none))))))) (.seq (.reg [
    ⟨(some 49), .mv (.t 4), none, 0⟩,
    ⟨(some 4), .mv (.t 49), none, 0⟩] 0 none) .ret)))),
  [.tmp 4], 50, [0, 1, 4, 6, 7, 8, 11, 12, 13]⟩
theorem ok_lock_Waits_int___Leave : cFn Try.prog eqsT newsT vf_lock_Waits_int___Leave.keep Try.f31 = some vf_lock_Waits_int___Leave := by kernel_rfl
def vf_lock_Waits_int___Leave_1 : VFn := ⟨(.seq (.reg [
    ⟨(some 3), .mv (.c (.p (.o (.bool false)))), none, 0⟩] 0 none) (.seq (.reg [
    ⟨(some 4), .ld none (.t 1), none, 0⟩,
    ⟨(some 5), .mv (.t 0), none, 0⟩,
    ⟨(some 6), .bin .eql (.t 4) (.t 5), none, 0⟩,
    ⟨(some 3), .mv (.t 6), none, 0⟩] 0 none) .ret)),
  [.tmp 3], 7, [0, 1, 3]⟩
theorem ok_lock_Waits_int___Leave_1 : cFn Try.prog eqsT newsT vf_lock_Waits_int___Leave_1.keep Try.f60 = some vf_lock_Waits_int___Leave_1 := by kernel_rfl
def vf_lock_Waits_int___Asleep : VFn := ⟨(.seq (.reg [
    ⟨(some 4), .mv (.c (.p (.o (.int .i64 0)))), none, 0⟩,
    ⟨(some 5), .mv (.c (.p (.o (.bool false)))), none, 0⟩] 0 none) (.seq (.seq (.reg [
    ⟨(some 6), .mv (.t 0), none, 0⟩,
    ⟨(some 7), .eq (.ref 0) false (.t 6) (.c (.p (.o (.nilp)))), none, 0⟩] 0 none) (.cond (.t 7) (.seq (.reg [
    ⟨(some 8), .mv (.t 4), none, 0⟩,
    ⟨(some 4), .mv (.t 8), none, 0⟩,
    ⟨(some 5), .mv (.c (.p (.o (.bool false)))), none, 0⟩] 0 none) .ret) .skip)) (.seq (.reg [
    ⟨(some 10), .mv (.t 0), none, 0⟩,
    ⟨(some 11), .nilc (.t 10), none, 0⟩,
    ⟨(some 12), .fad 2 (.t 11), none, 0⟩,
    ⟨(some 13), .ld none (.t 12), none, 0⟩,
    ⟨(some 14), .mv (.t 1), none, 0⟩,
    ⟨(some 15), .mget false [.int .u64] (.o (.int .i64 0)) true (.t 13) (.t 14), none, 0⟩,
    ⟨(some 9), .mv (.t 15), none, 0⟩,
    ⟨(some 16), .ext 0 (.t 9), none, 0⟩,
    ⟨(some 17), .ext 1 (.t 9), none, 0⟩,
    ⟨(some 4), .mv (.t 16), none, 0⟩,
    ⟨(some 5), .mv (.t 17), none, 0⟩] 0 none) (.seq (.reg [
    ⟨(some 18), .mv (.t 4), none, 0⟩,
    ⟨(some 19), .mv (.t 5), none, 0⟩,
    ⟨(some 4), .mv (.t 18), none, 0⟩,
    ⟨(some 5), .mv (.t 19), none, 0⟩] 0 none) .ret)))),
  [.tmp 4, .tmp 5], 20, [0, 1, 4, 5]⟩
theorem ok_lock_Waits_int___Asleep : cFn Try.prog eqsT newsT vf_lock_Waits_int___Asleep.keep Try.f35 = some vf_lock_Waits_int___Asleep := by kernel_rfl
def vf_lock_Waits_int___Len : VFn := ⟨(.seq (.reg [
    ⟨(some 2), .mv (.c (.p (.o (.int .i64 0)))), none, 0⟩] 0 none) (.seq (.seq (.reg [
    ⟨(some 3), .mv (.t 0), none, 0⟩,
    ⟨(some 4), .eq (.ref 0) false (.t 3) (.c (.p (.o (.nilp)))), none, 0⟩] 0 none) (.cond (.t 4) (.seq (.reg [
    ⟨(some 2), .mv (.c (.p (.o (.int .i64 0)))), none, 0⟩] 0 none) .ret) .skip)) (.seq (.reg [
    ⟨(some 5), .mv (.t 0), none, 0⟩,
    ⟨(some 6), .nilc (.t 5), none, 0⟩,
    ⟨(some 7), .fad 2 (.t 6), none, 0⟩,
    ⟨(some 8), .ld none (.t 7), none, 0⟩,
    ⟨(some 9), .mlen (.t 8), none, 0⟩,
    ⟨(some 2), .mv (.t 9), none, 0⟩] 0 none) .ret))),
  [.tmp 2], 10, [0, 2]⟩
theorem ok_lock_Waits_int___Len : cFn Try.prog eqsT newsT vf_lock_Waits_int___Len.keep Try.f37 = some vf_lock_Waits_int___Len := by kernel_rfl
def vf_lock_Locks__Owner : VFn := ⟨(.seq (.reg [
    ⟨(some 4), .mv (.c (.p (.o (.int .i64 0)))), none, 0⟩,
    ⟨(some 5), .mv (.c (.p (.o (.bool false)))), none, 0⟩] 0 none) (.seq (.seq (.reg [
    ⟨(some 6), .mv (.t 0), none, 0⟩,
    ⟨(some 7), .mv (.t 1), none, 0⟩,
    ⟨(some 8), .call 55 [(.t 6), (.t 7), (.c (.p (.o (.int .i64 0))))] 0, none, 0⟩,
    ⟨(some 9), .bin .neq (.t 8) (.c (.p (.o (.int .i64 0)))), none, 0⟩,
    ⟨(some 10), .mv (.t 9), none, 0⟩,
    ⟨(some 11), .mv (.t 0), (some (10, false)), 0⟩,
    ⟨(some 12), .nilc (.t 11), (some (10, false)), 0⟩,
    ⟨(some 13), .fad 0 (.t 12), (some (10, false)), 0⟩,
    ⟨(some 14), .ld none (.t 13), (some (10, false)), 0⟩,
    ⟨(some 15), .mv (.t 1), (some (10, false)), 0⟩,
    ⟨(some 16), .iad 1 (.t 14) (.t 15), (some (10, false)), 0⟩,
    ⟨(some 17), .ld none (.t 16), (some (10, false)), 0⟩,
    ⟨(some 18), .bin .lss (.t 17) (.c (.p (.o (.int .i64 0)))), (some (10, false)), 0⟩,
    ⟨(some 19), .pick (.t 10) (.c (.p (.o (.bool true)))) (.t 18), none, 0⟩] 0 none) (.cond (.t 19) (.seq (.reg [
    ⟨(some 4), .mv (.c (.p (.o (.int .i64 0)))), none, 0⟩,
    ⟨(some 5), .mv (.c (.p (.o (.bool false)))), none, 0⟩] 0 none) .ret) .skip)) (.seq (.reg [
    ⟨(some 20), .mv (.t 0), none, 0⟩,
    ⟨(some 21), .nilc (.t 20), none, 0⟩,
    ⟨(some 22), .fad 0 (.t 21), none, 0⟩,
    ⟨(some 23), .ld none (.t 22), none, 0⟩,
    ⟨(some 24), .mv (.t 1), none, 0⟩,
    ⟨(some 25), .iad 1 (.t 23) (.t 24), none, 0⟩,
    ⟨(some 26), .ld none (.t 25), none, 0⟩,
    ⟨(some 4), .mv (.t 26), none, 0⟩,
    ⟨(some 5), .mv (.c (.p (.o (.bool true)))), none, 0⟩] 0 none) .ret))),
  [.tmp 4, .tmp 5], 27, [0, 1, 4, 5]⟩
theorem ok_lock_Locks__Owner : cFn Try.prog eqsT newsT vf_lock_Locks__Owner.keep Try.f24 = some vf_lock_Locks__Owner := by kernel_rfl
def vf_lock_Locks__Of : VFn := ⟨(.seq (.reg [
    ⟨(some 4), .mv (.c (.p (.o (.int .i64 0)))), none, 0⟩,
    ⟨(some 5), .mv (.c (.p (.o (.bool false)))), none, 0⟩] 0 none) (.seq (.seq (.reg [
    ⟨(some 6), .mv (.t 0), none, 0⟩,
    ⟨(some 7), .mv (.t 1), none, 0⟩,
    ⟨(some 8), .call 55 [(.t 6), (.c (.p (.o (.int .i64 0)))), (.t 7)] 0, none, 0⟩,
    ⟨(some 9), .bin .neq (.t 8) (.c (.p (.o (.int .i64 0)))), none, 0⟩,
    ⟨(some 10), .mv (.t 9), none, 0⟩,
    ⟨(some 11), .mv (.t 0), (some (10, false)), 0⟩,
    ⟨(some 12), .mv (.t 1), (some (10, false)), 0⟩,
    ⟨(some 13), .nilc (.t 11), (some (10, false)), 0⟩,
    ⟨(some 14), .fad 1 (.t 13), (some (10, false)), 0⟩,
    ⟨(some 15), .iaa 8 1 (.t 14) (.t 12), (some (10, false)), 0⟩,
    ⟨(some 16), .ld none (.t 15), (some (10, false)), 0⟩,
    ⟨(some 17), .bin .lss (.t 16) (.c (.p (.o (.int .i64 0)))), (some (10, false)), 0⟩,
    ⟨(some 18), .pick (.t 10) (.c (.p (.o (.bool true)))) (.t 17), none, 0⟩] 0 none) (.cond (.t 18) (.seq (.reg [
    ⟨(some 4), .mv (.c (.p (.o (.int .i64 0)))), none, 0⟩,
    ⟨(some 5), .mv (.c (.p (.o (.bool false)))), none, 0⟩] 0 none) .ret) .skip)) (.seq (.reg [
    ⟨(some 19), .mv (.t 0), none, 0⟩,
    ⟨(some 20), .mv (.t 1), none, 0⟩,
    ⟨(some 21), .nilc (.t 19), none, 0⟩,
    ⟨(some 22), .fad 1 (.t 21), none, 0⟩,
    ⟨(some 23), .iaa 8 1 (.t 22) (.t 20), none, 0⟩,
    ⟨(some 24), .ld none (.t 23), none, 0⟩,
    ⟨(some 4), .mv (.t 24), none, 0⟩,
    ⟨(some 5), .mv (.c (.p (.o (.bool true)))), none, 0⟩] 0 none) .ret))),
  [.tmp 4, .tmp 5], 25, [0, 1, 4, 5]⟩
theorem ok_lock_Locks__Of : cFn Try.prog eqsT newsT vf_lock_Locks__Of.keep Try.f25 = some vf_lock_Locks__Of := by kernel_rfl
def vf_law18_LockNone : VFn := ⟨(.seq (.reg [
    ⟨(some 6), .mv (.c (.p (.o (.bool false)))), none, 0⟩] 0 none) (.seq (.reg [
    ⟨(some 7), .mv (.c (.p (.o (.nilp)))), none, 0⟩] 0 none) (.seq (.reg [
    ⟨(some 8), .mv (.c (.p (.o (.nilp)))), none, 0⟩] 0 none) (.seq (.reg [
    ⟨(some 18), .mv (.t 7), none, 0⟩,
    ⟨(some 19), .mv (.t 0), none, 0⟩,
    ⟨(some 20), .mv (.t 1), none, 0⟩,
    ⟨(some 21), .call 16 [(.t 18), (.t 19), (.t 20)] 0, none, 0⟩,
    ⟨(some 17), .mv (.t 21), none, 0⟩,
    ⟨(some 22), .ext 0 (.t 17), none, 0⟩,
    ⟨(some 23), .ext 1 (.t 17), none, 0⟩,
    ⟨(some 9), .mv (.t 22), none, 0⟩,
    ⟨(some 10), .mv (.t 23), none, 0⟩] 0 none) (.seq (.reg [
    ⟨(some 25), .mv (.t 7), none, 0⟩,
    ⟨(some 26), .mv (.t 0), none, 0⟩,
    ⟨(some 27), .call 24 [(.t 25), (.t 26)] 0, none, 0⟩,
    ⟨(some 24), .mv (.t 27), none, 0⟩,
    ⟨(some 28), .ext 0 (.t 24), none, 0⟩,
    ⟨(some 29), .ext 1 (.t 24), none, 0⟩,
    ⟨(some 11), .mv (.t 28), none, 0⟩,
    ⟨(some 12), .mv (.t 29), none, 0⟩] 0 none) (.seq (.reg [
    ⟨(some 31), .mv (.t 7), none, 0⟩,
    ⟨(some 32), .mv (.t 1), none, 0⟩,
    ⟨(some 33), .call 25 [(.t 31), (.t 32)] 0, none, 0⟩,
    ⟨(some 30), .mv (.t 33), none, 0⟩,
    ⟨(some 34), .ext 0 (.t 30), none, 0⟩,
    ⟨(some 35), .ext 1 (.t 30), none, 0⟩,
    ⟨(some 13), .mv (.t 34), none, 0⟩,
    ⟨(some 14), .mv (.t 35), none, 0⟩] 0 none) (.seq (.reg [
    ⟨(some 37), .mv (.t 8), none, 0⟩,
    ⟨(some 38), .mv (.t 2), none, 0⟩,
    ⟨(some 39), .call 35 [(.t 37), (.t 38)] 0, none, 0⟩,
    ⟨(some 36), .mv (.t 39), none, 0⟩,
    ⟨(some 40), .ext 0 (.t 36), none, 0⟩,
    ⟨(some 41), .ext 1 (.t 36), none, 0⟩,
    ⟨(some 15), .mv (.t 40), none, 0⟩,
    ⟨(some 16), .mv (.t 41), none, 0⟩] 0 none) (.seq (.reg [
    ⟨(some 42), .mv (.t 9), none, 0⟩,
    ⟨(some 43), .bin .eql (.t 42) (.c (.p (.o (.int .u8 0)))), none, 0⟩,
    ⟨(some 44), .mv (.t 43), none, 0⟩,
    ⟨(some 45), .mv (.t 10), (some (44, true)), 0⟩,
    ⟨(some 46), .bin .eql (.t 45) (.c (.p (.o (.int .i64 1)))), (some (44, true)), 0⟩,
    ⟨(some 47), .pick (.t 44) (.t 46) (.c (.p (.o (.bool false)))), none, 0⟩,
    ⟨(some 48), .mv (.t 47), none, 0⟩,
    ⟨(some 49), .mv (.t 7), (some (48, true)), 0⟩,
    ⟨(some 50), .mv (.t 0), (some (48, true)), 0⟩,
    ⟨(some 51), .mv (.t 1), (some (48, true)), 0⟩,
    ⟨(some 52), .call 15 [(.t 49), (.t 50), (.t 51)] 0, (some (48, true)), 0⟩,
    ⟨(some 53), .bin .eql (.t 52) (.c (.p (.o (.int .i64 1)))), (some (48, true)), 0⟩,
    ⟨(some 54), .pick (.t 48) (.t 53) (.c (.p (.o (.bool false)))), none, 0⟩,
    ⟨(some 55), .mv (.t 54), none, 0⟩,
    ⟨(some 56), .mv (.t 12), (some (55, true)), 0⟩,
    ⟨(some 57), .un .not (.t 56), (some (55, true)), 0⟩,
    ⟨(some 58), .pick (.t 55) (.t 57) (.c (.p (.o (.bool false)))), none, 0⟩,
    ⟨(some 59), .mv (.t 58), none, 0⟩,
    ⟨(some 60), .mv (.t 14), (some (59, true)), 0⟩,
    ⟨(some 61), .un .not (.t 60), (some (59, true)), 0⟩,
    ⟨(some 62), .pick (.t 59) (.t 61) (.c (.p (.o (.bool false)))), none, 0⟩,
    ⟨(some 63), .mv (.t 62), none, 0⟩,
    ⟨(some 64), .mv (.t 7), (some (63, true)), 0⟩,
    ⟨(some 65), .mv (.t 1), (some (63, true)), 0⟩,
    ⟨(some 66), .call 27 [(.t 64), (.t 65)] 0, (some (63, true)), 0⟩,
    ⟨(some 67), .bin .eql (.t 66) (.c (.p (.o (.int .u64 0)))), (some (63, true)), 0⟩,
    ⟨(some 68), .pick (.t 63) (.t 67) (.c (.p (.o (.bool false)))), none, 0⟩,
    ⟨(some 69), .mv (.t 68), none, 0⟩,
    ⟨(some 70), .mv (.t 8), (some (69, true)), 0⟩,
    ⟨(some 71), .mv (.t 0), (some (69, true)), 0⟩,
    ⟨(some 72), .mv (.t 2), (some (69, true)), 0⟩,
    ⟨(some 73), .call 33 [(.t 70), (.t 71), (.t 72)] 0, (some (69, true)), 0⟩,
    ⟨(some 74), .bin .eql (.t 73) (.c (.p (.o (.int .i64 1)))), (some (69, true)), 0⟩,
    ⟨(some 75), .pick (.t 69) (.t 74) (.c (.p (.o (.bool false)))), none, 0⟩,
    ⟨(some 76), .mv (.t 75), none, 0⟩,
    ⟨(some 77), .mv (.t 8), (some (76, true)), 0⟩,
    ⟨(some 78), .mv (.t 0), (some (76, true)), 0⟩,
    ⟨(some 79), .call 29 [(.t 77), (.t 78), (.c (.p (.o (.int .i64 5))))] 1, (some (76, true)), 0⟩,
    ⟨(some 80), .len true (.t 79), (some (76, true)), 1⟩,
    ⟨(some 81), .bin .eql (.t 80) (.c (.p (.o (.int .i64 0)))), (some (76, true)), 1⟩,
    ⟨(some 82), .pick (.t 76) (.t 81) (.c (.p (.o (.bool false)))), none, 1⟩,
    ⟨(some 83), .mv (.t 82), none, 1⟩,
    ⟨(some 84), .mv (.t 8), (some (83, true)), 1⟩,
    ⟨(some 85), .mv (.t 2), (some (83, true)), 1⟩,
    ⟨(some 86), .bsl 1 [.int .u64 0] [(0, 1, (.t 85))], (some (83, true)), 1⟩,
    ⟨(some 87), .call 31 [(.t 84), (.t 86)] 0, (some (83, true)), 2⟩,
    ⟨(some 88), .bin .eql (.t 87) (.c (.p (.o (.int .i64 0)))), (some (83, true)), 2⟩,
    ⟨(some 89), .pick (.t 83) (.t 88) (.c (.p (.o (.bool false)))), none, 2⟩,
    ⟨(some 90), .mv (.t 89), none, 2⟩,
    ⟨(some 91), .mv (.t 15), (some (90, true)), 2⟩,
    ⟨(some 92), .bin .eql (.t 91) (.c (.p (.o (.int .i64 0)))), (some (90, true)), 2⟩,
    ⟨(some 93), .pick (.t 90) (.t 92) (.c (.p (.o (.bool false)))), none, 2⟩,
    ⟨(some 94), .mv (.t 93), none, 2⟩,
    ⟨(some 95), .mv (.t 16), (some (94, true)), 2⟩,
    ⟨(some 96), .un .not (.t 95), (some (94, true)), 2⟩,
    ⟨(some 97), .pick (.t 94) (.t 96) (.c (.p (.o (.bool false)))), none, 2⟩,
    ⟨(some 98), .mv (.t 97), none, 2⟩,
    ⟨(some 99), .mv (.t 8), (some (98, true)), 2⟩,
    ⟨(some 100), .call 37 [(.t 99)] 0, (some (98, true)), 2⟩,
    ⟨(some 101), .bin .eql (.t 100) (.c (.p (.o (.int .i64 0)))), (some (98, true)), 2⟩,
    ⟨(some 102), .pick (.t 98) (.t 101) (.c (.p (.o (.bool false)))), none, 2⟩,
    ⟨(some 103), .mv (.t 102), none, 2⟩,
    ⟨(some 104), .call 13 [] 0, (some (103, true)), 2⟩,
    ⟨(some 105), .pick (.t 103) (.t 104) (.c (.p (.o (.bool false)))), none, 2⟩,
    ⟨(some 6), .mv (.t 105), none, 2⟩] 2 none) .ret)))))))),
  [.tmp 6], 106, [0, 1, 2, 6, 7, 8, 9, 10, 12, 14, 15, 16]⟩
theorem ok_law18_LockNone : cFn Try.prog eqsT newsT vf_law18_LockNone.keep Try.f7 = some vf_law18_LockNone := by kernel_rfl
set_option maxHeartbeats 8000000 in
theorem none_det (a core who : Int) : Det G Try.prog 7 [.o (.int .i64 a), .o (.int .i64 core), .o (.int .u64 who)] [] (vB true) [] := by
  refine can_of_W known mix Try.func7 (by kernel_rfl) ok_law18_LockNone (Nat.le_of_ble_eq_true rfl) ?_
  repeat' ((conv => whnf); first
    | ((with_reducible refine Look.mk ?_); refine ⟨_, rfl, ?_⟩)
    | ((with_reducible refine LookN.zeros ?_))
    | ((with_reducible refine LookN.bytes ?_ ?_); (simp; done))
    | ((with_reducible refine BytesW.bytes ?_))
    | ((with_reducible refine Look.byte ?_ ?_); omega)
    | ((with_reducible refine Look.setb ?_ ?_ ?_); exact bv8_bd _; omega)
    | ((with_reducible refine LookN.setb ?_ ?_ ?_); exact bv8_bd _; omega)
    | ((with_reducible refine LookN.mk ?_); refine ⟨_, rfl, ?_⟩)
    | ((with_reducible refine Need.mk ?_ ?_); first | ((with_reducible refine needB ?_); kernel_rfl) | with_reducible rfl | omega | (with_reducible refine ⟨rfl, ?_⟩; focus omega) | (simp only [ByteArray.size_append, size_lit, List.size_toArray, List.length_cons, List.length_nil]; omega) | exact rfl | trivial | exact Nat.le_of_ble_eq_true rfl | (exact ⟨rfl, by omega⟩) | (intro h; first | rfl | cases h) | (simp only [lenS_text, lenS_setN, lenS_zeros]; omega))
    | ((with_reducible refine BytesW.mk ?_); refine ⟨_, rfl, ?_⟩)
    | (with_reducible refine CallW.det (works_det) ?_)
    | (with_reducible refine CallW.can (can_of_W known mix Try.func33 (by kernel_rfl) ok_lock_Waits_int___Sleep (Nat.le_of_ble_eq_true rfl) ?_) (fun _ _ h => h))
    | (with_reducible refine CallW.can (can_of_W known mix Try.func29 (by kernel_rfl) ok_lock_Waits_int___Wake (Nat.le_of_ble_eq_true rfl) ?_) (fun _ _ h => h))
    | (with_reducible refine CallW.can (can_of_W known mix Try.func31 (by kernel_rfl) ok_lock_Waits_int___Leave (Nat.le_of_ble_eq_true rfl) ?_) (fun _ _ h => h))
    | (with_reducible refine CallW.can (can_of_W known mix Try.func60 (by kernel_rfl) ok_lock_Waits_int___Leave_1 (Nat.le_of_ble_eq_true rfl) ?_) (fun _ _ h => h))
    | (with_reducible refine CallW.can (can_of_W known mix Try.func35 (by kernel_rfl) ok_lock_Waits_int___Asleep (Nat.le_of_ble_eq_true rfl) ?_) (fun _ _ h => h))
    | (with_reducible refine CallW.can (can_of_W known mix Try.func37 (by kernel_rfl) ok_lock_Waits_int___Len (Nat.le_of_ble_eq_true rfl) ?_) (fun _ _ h => h))
    | (with_reducible refine CallW.can (can_of_W known mix Try.func24 (by kernel_rfl) ok_lock_Locks__Owner (Nat.le_of_ble_eq_true rfl) ?_) (fun _ _ h => h))
    | (with_reducible refine CallW.can (can_of_W known mix Try.func25 (by kernel_rfl) ok_lock_Locks__Of (Nat.le_of_ble_eq_true rfl) ?_) (fun _ _ h => h))
    | (with_reducible refine CallW.can (can_of_W known mix Try.func16 (by kernel_rfl) ok_lock_Locks__Try (Nat.le_of_ble_eq_true rfl) ?_) (fun _ _ h => h))
    | (with_reducible refine CallW.can (can_of_W known mix Try.func15 (by kernel_rfl) ok_lock_Locks__Free (Nat.le_of_ble_eq_true rfl) ?_) (fun _ _ h => h))
    | (with_reducible refine CallW.can (can_of_W known mix Try.func55 (by kernel_rfl) ok_lock_Locks__may (Nat.le_of_ble_eq_true rfl) ?_) (fun _ _ h => h))
    | (with_reducible refine CallW.can (can_of_W known mix Try.func27 (by kernel_rfl) ok_lock_Locks__Spins (Nat.le_of_ble_eq_true rfl) ?_) (fun _ _ h => h))
    | ((with_reducible refine Test.tmodEqT ?_ ?_ ?_); omega; focus first | omega | assumption)
    | ((with_reducible refine Test.tmodEqF ?_ ?_ ?_); omega; focus first | omega | assumption)
    | ((with_reducible refine Test.tmodNeT ?_ ?_ ?_); omega; focus first | omega | assumption)
    | ((with_reducible refine Test.tmodNeF ?_ ?_ ?_); omega; focus first | omega | assumption)
    | ((with_reducible refine Test.tmodEq ?_ (fun h => ?_) (fun h => ?_)); omega)
    | ((with_reducible refine Test.tmodNe ?_ (fun h => ?_) (fun h => ?_)); omega)
    | ((with_reducible refine Test.notT ?_ ?_); focus assumption)
    | ((with_reducible refine Test.notF ?_ ?_); focus assumption)
    | (with_reducible refine Test.notIe (fun h => ?_) (fun h => ?_))
    | (with_reducible refine Test.notD (fun h => ?_) (fun h => ?_))
    | ((with_reducible refine Test.empty (fun h => ?_) (fun h => ?_)))
    | (with_reducible refine Test.tt ?_)
    | (with_reducible refine Test.ff ?_)
    | ((with_reducible refine Test.dt ?_ ?_); omega)
    | ((with_reducible refine Test.df ?_ ?_); omega)
    | (with_reducible refine Test.d (fun h => ?_) (fun h => ?_))
    | ((with_reducible refine Test.ieT ?_ ?_); omega)
    | ((with_reducible refine Test.ieF ?_ ?_); omega)
    | ((with_reducible refine Test.neT ?_ ?_); omega)
    | ((with_reducible refine Test.neF ?_ ?_); omega)
    | (with_reducible refine Test.ie (fun h => ?_) (fun h => ?_))
    | (with_reducible refine Test.ne (fun h => ?_) (fun h => ?_))
    | ((with_reducible refine Test.b ?_ ?_); (focus first | assumption | (simp [negB]; done) | exact rfl))
    | ((with_reducible refine Test.nb ?_ ?_); (focus first | assumption | (simp [negB]; done) | exact rfl))
    | (with_reducible refine Test.notS (fun h => ?_) (fun h => ?_))
    | (with_reducible refine Test.mk (fun h => ?_) (fun h => ?_))
    | ((with_reducible refine Arith.tdiv ?_ ?_); omega)
    | (with_reducible refine Arith.bv8 ?_)
    | (with_reducible refine Arith.bv16 ?_)
    | (with_reducible refine Arith.bv32 ?_)
    | (with_reducible refine Arith.bv64 ?_)
    | ((with_reducible refine Arith.i64 ?_ ?_); omega)
    | ((with_reducible refine Arith.u64 ?_ ?_); omega)
    | ((with_reducible refine Arith.u32 ?_ ?_); omega)
    | ((with_reducible refine Arith.u16 ?_ ?_); omega)
    | ((with_reducible refine Arith.u8 ?_ ?_); omega)
    | ((with_reducible refine Arith.i32 ?_ ?_); omega)
    | (with_reducible refine Arith.mk ?_)
    | (with_reducible refine Ends.mk ?_))
  all_goals first | exact ⟨rfl, rfl⟩
end G5
end Go.Proofs.Ytmdfkggflainbaa.VM
