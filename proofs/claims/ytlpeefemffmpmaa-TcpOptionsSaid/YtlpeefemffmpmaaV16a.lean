/- law 16 by the evaluator: what both write. -/
import Derived.Test.YtlpeefemffmpmaaVBw
import Derived.Test.YtlpeefemffmpmaaVBs
import Derived.Test.YtlpeefemffmpmaaVBr
import Derived.Test.YtlpeefemffmpmaaRows
namespace Go.Proofs.Ytlpeefemffmpmaa.VM
namespace L16
open Go.RowKit
set_option linter.unusedVariables false
set_option linter.unusedSimpArgs false
set_option maxRecDepth 100000
def eqsT : List Nat := [41, 42, 43, 44, 45, 46, 62, 63]
def newsT (f : Nat) : Nat := (if f = 61 then 1 else 0)
theorem known : Known Try.prog eqsT := known_of (by kernel_rfl)
theorem mix : Try.prog.follows .mixedOrders = true := by kernel_rfl
def vf_tcp_has : VFn := ⟨(.seq (.reg [
    ⟨(some 1), .box (.t 0), none, 0⟩,
    ⟨(some 2), .mv (.c (.p (.o (.nilfn)))), none, 1⟩] 1 none) (.seq (.reg [
    ⟨(some 3), .mkf 71 [(.t 1)], none, 0⟩,
    ⟨(some 2), .mv (.t 3), none, 0⟩] 0 none) .ret)),
  [.tmp 2], 4, [0, 1, 2]⟩
theorem ok_tcp_has : cFn Try.prog eqsT newsT vf_tcp_has.keep Try.f61 = some vf_tcp_has := by kernel_rfl
def vf_tcp_has_1 : VFn := ⟨(.seq (.reg [
    ⟨(some 3), .mv (.c (.p (.o (.bool false)))), none, 0⟩] 0 none) (.seq (.reg [
    ⟨(some 4), .fad 6 (.t 1), none, 0⟩,
    ⟨(some 5), .ld none (.t 4), none, 0⟩,
    ⟨(some 6), .mv (.t 0), none, 0⟩,
    ⟨(some 7), .bin .and (.t 5) (.t 6), none, 0⟩,
    ⟨(some 8), .bin .neq (.t 7) (.c (.p (.o (.int .u8 0)))), none, 0⟩,
    ⟨(some 3), .mv (.t 8), none, 0⟩] 0 none) .ret)),
  [.tmp 3], 9, [0, 1, 3]⟩
theorem ok_tcp_has_1 : cFn Try.prog eqsT newsT vf_tcp_has_1.keep Try.f71 = some vf_tcp_has_1 := by kernel_rfl
def vf_tcp_May : VFn := ⟨(.seq (.reg [
    ⟨(some 1), .box (.t 0), none, 0⟩,
    ⟨(some 2), .mv (.c (.p (.o (.bool false)))), none, 1⟩] 1 none) (.seq (.reg [
    ⟨(some 4), .ld (some 12) (.t 1), none, 0⟩,
    ⟨(some 5), .call 61 [(.t 4)] 1, none, 0⟩,
    ⟨(some 6), .callv (.t 5) [(.c (.p (.o (.int .u8 2))))] 0, none, 1⟩,
    ⟨(some 7), .mv (.t 6), none, 1⟩,
    ⟨(some 8), .fad 9 (.t 1), (some (7, false)), 1⟩,
    ⟨(some 9), .ld none (.t 8), (some (7, false)), 1⟩,
    ⟨(some 10), .bin .eql (.t 9) (.c (.p (.o (.int .u16 0)))), (some (7, false)), 1⟩,
    ⟨(some 11), .mv (.t 10), (some (7, false)), 1⟩,
    ⟨(some 12), .fad 10 (.t 1), (some (11, true)), 1⟩,
    ⟨(some 13), .ld none (.t 12), (some (11, true)), 1⟩,
    ⟨(some 14), .bin .eql (.t 13) (.c (.p (.o (.int .i64 (-1))))), (some (11, true)), 1⟩,
    ⟨(some 15), .pick (.t 11) (.t 14) (.c (.p (.o (.bool false)))), (some (7, false)), 1⟩,
    ⟨(some 16), .pick (.t 7) (.c (.p (.o (.bool true)))) (.t 15), none, 1⟩,
    ⟨(some 3), .mv (.t 16), none, 1⟩] 1 none) (.seq (.reg [
    ⟨(some 17), .fad 6 (.t 1), none, 0⟩,
    ⟨(some 18), .ld none (.t 17), none, 0⟩,
    ⟨(some 19), .bin .leq (.t 18) (.c (.p (.o (.int .u8 63)))), none, 0⟩,
    ⟨(some 20), .mv (.t 19), none, 0⟩,
    ⟨(some 21), .mv (.t 3), (some (20, true)), 0⟩,
    ⟨(some 22), .pick (.t 20) (.t 21) (.c (.p (.o (.bool false)))), none, 0⟩,
    ⟨(some 23), .mv (.t 22), none, 0⟩,
    ⟨(some 24), .fad 10 (.t 1), (some (23, true)), 0⟩,
    ⟨(some 25), .ld none (.t 24), (some (23, true)), 0⟩,
    ⟨(some 26), .bin .geq (.t 25) (.c (.p (.o (.int .i64 (-1))))), (some (23, true)), 0⟩,
    ⟨(some 27), .pick (.t 23) (.t 26) (.c (.p (.o (.bool false)))), none, 0⟩,
    ⟨(some 28), .mv (.t 27), none, 0⟩,
    ⟨(some 29), .fad 10 (.t 1), (some (28, true)), 0⟩,
    ⟨(some 30), .ld none (.t 29), (some (28, true)), 0⟩,
    ⟨(some 31), .bin .leq (.t 30) (.c (.p (.o (.int .i64 14)))), (some (28, true)), 0⟩,
    ⟨(some 32), .pick (.t 28) (.t 31) (.c (.p (.o (.bool false)))), none, 0⟩,
    ⟨(some 2), .mv (.t 32), none, 0⟩] 0 none) .ret))),
  [.tmp 2], 33, [0, 1, 2, 3]⟩
theorem ok_tcp_May : cFn Try.prog eqsT newsT vf_tcp_May.keep Try.f42 = some vf_tcp_May := by kernel_rfl
def vf_tcp_options : VFn := ⟨(.seq (.reg [
    ⟨(some 1), .box (.t 0), none, 0⟩,
    ⟨(some 2), .mv (.c (.p (.o (.str ⟨#[]⟩)))), none, 1⟩] 1 none) (.seq (.seq (.reg [
    ⟨(some 3), .fad 9 (.t 1), none, 0⟩,
    ⟨(some 4), .ld none (.t 3), none, 0⟩,
    ⟨(some 5), .bin .gtr (.t 4) (.c (.p (.o (.int .u16 0)))), none, 0⟩] 0 none) (.cond (.t 5) (.reg [
    ⟨(some 6), .fad 9 (.t 1), none, 0⟩,
    ⟨(some 7), .ld none (.t 6), none, 0⟩,
    ⟨(some 8), .cvi .u64 (.t 7), none, 0⟩,
    ⟨(some 9), .call 49 [(.t 8), (.c (.p (.o (.int .i64 2))))] 0, none, 0⟩,
    ⟨(some 10), .bin .add (.c (.p (.o (.str ⟨#[2, 4]⟩)))) (.t 9), none, 0⟩,
    ⟨(some 2), .mv (.t 10), none, 0⟩] 0 none) .skip)) (.seq (.seq (.reg [
    ⟨(some 11), .fad 10 (.t 1), none, 0⟩,
    ⟨(some 12), .ld none (.t 11), none, 0⟩,
    ⟨(some 13), .bin .geq (.t 12) (.c (.p (.o (.int .i64 0)))), none, 0⟩] 0 none) (.cond (.t 13) (.reg [
    ⟨(some 14), .mv (.t 2), none, 0⟩,
    ⟨(some 15), .fad 10 (.t 1), none, 0⟩,
    ⟨(some 16), .ld none (.t 15), none, 0⟩,
    ⟨(some 17), .cvi .u64 (.t 16), none, 0⟩,
    ⟨(some 18), .call 49 [(.t 17), (.c (.p (.o (.int .i64 1))))] 0, none, 0⟩,
    ⟨(some 19), .bin .add (.c (.p (.o (.str ⟨#[1, 3, 3]⟩)))) (.t 18), none, 0⟩,
    ⟨(some 20), .bin .add (.t 14) (.t 19), none, 0⟩,
    ⟨(some 2), .mv (.t 20), none, 0⟩] 0 none) .skip)) (.seq (.reg [
    ⟨(some 21), .mv (.t 2), none, 0⟩,
    ⟨(some 2), .mv (.t 21), none, 0⟩] 0 none) .ret)))),
  [.tmp 2], 22, [0, 1, 2]⟩
theorem ok_tcp_options : cFn Try.prog eqsT newsT vf_tcp_options.keep Try.f57 = some vf_tcp_options := by kernel_rfl
def vf_tcp_Encode : VFn := ⟨(.seq (.reg [
    ⟨(some 1), .box (.t 0), none, 0⟩,
    ⟨(some 2), .mv (.c (.p (.o (.str ⟨#[]⟩)))), none, 1⟩,
    ⟨(some 3), .mv (.c (.p (.o (.int .i64 0)))), none, 1⟩] 1 none) (.seq (.seq (.reg [
    ⟨(some 10), .ld (some 12) (.t 1), none, 0⟩,
    ⟨(some 11), .call 42 [(.t 10)] 0, none, 0⟩,
    ⟨(some 12), .un .not (.t 11), none, 0⟩] 0 none) (.cond (.t 12) (.seq (.reg [
    ⟨(some 2), .mv (.c (.p (.o (.str ⟨#[]⟩)))), none, 0⟩,
    ⟨(some 3), .mv (.c (.p (.o (.int .i64 2)))), none, 0⟩] 0 none) .ret) .skip)) (.seq (.reg [
    ⟨(some 13), .ld (some 12) (.t 1), none, 0⟩,
    ⟨(some 14), .call 57 [(.t 13)] 0, none, 0⟩,
    ⟨(some 15), .fad 0 (.t 1), none, 0⟩,
    ⟨(some 16), .ld (some 4) (.t 15), none, 0⟩,
    ⟨(some 5), .new [.int .u32 0, .int .u16 0, .int .u32 0, .int .u16 0], none, 0⟩,
    ⟨(some 4), .mv (.t 14), none, 1⟩,
    ⟨none, .st 4 (.t 5) (.t 16), none, 1⟩] 1 (some [(0, 2), (1, 2), (0, 3), (1, 3), (0, 4), (1, 4), (2, 4), (3, 4), (2, 5), (3, 5)])) (.seq (.reg [
    ⟨(some 17), .mv (.t 4), none, 0⟩,
    ⟨(some 18), .len false (.t 17), none, 0⟩,
    ⟨(some 19), .bin .add (.c (.p (.o (.int .i64 20)))) (.t 18), none, 0⟩,
    ⟨(some 6), .mv (.t 19), none, 0⟩] 0 none) (.seq (.seq (.reg [
    ⟨(some 20), .mv (.t 6), none, 0⟩,
    ⟨(some 21), .fad 11 (.t 1), none, 0⟩,
    ⟨(some 22), .ld none (.t 21), none, 0⟩,
    ⟨(some 23), .len false (.t 22), none, 0⟩,
    ⟨(some 24), .bin .add (.t 20) (.t 23), none, 0⟩,
    ⟨(some 25), .bin .gtr (.t 24) (.c (.p (.o (.int .i64 65515)))), none, 0⟩] 0 none) (.cond (.t 25) (.seq (.reg [
    ⟨(some 2), .mv (.c (.p (.o (.str ⟨#[]⟩)))), none, 0⟩,
    ⟨(some 3), .mv (.c (.p (.o (.int .i64 4)))), none, 0⟩] 0 none) .ret) .skip)) (.seq (.reg [
    ⟨(some 26), .fad 0 (.t 5), none, 0⟩,
    ⟨(some 27), .fad 1 (.t 26), none, 0⟩,
    ⟨(some 28), .ld none (.t 27), none, 0⟩,
    ⟨(some 29), .cvi .u64 (.t 28), none, 0⟩,
    ⟨(some 30), .call 49 [(.t 29), (.c (.p (.o (.int .i64 2))))] 0, none, 0⟩,
    ⟨(some 31), .fad 2 (.t 5), none, 0⟩,
    ⟨(some 32), .fad 1 (.t 31), none, 0⟩,
    ⟨(some 33), .ld none (.t 32), none, 0⟩,
    ⟨(some 34), .cvi .u64 (.t 33), none, 0⟩,
    ⟨(some 35), .call 49 [(.t 34), (.c (.p (.o (.int .i64 2))))] 0, none, 0⟩,
    ⟨(some 36), .bin .add (.t 30) (.t 35), none, 0⟩,
    ⟨(some 37), .fad 4 (.t 1), none, 0⟩,
    ⟨(some 38), .ld none (.t 37), none, 0⟩,
    ⟨(some 39), .cvi .u64 (.t 38), none, 0⟩,
    ⟨(some 40), .call 49 [(.t 39), (.c (.p (.o (.int .i64 4))))] 0, none, 0⟩,
    ⟨(some 41), .bin .add (.t 36) (.t 40), none, 0⟩,
    ⟨(some 42), .fad 5 (.t 1), none, 0⟩,
    ⟨(some 43), .ld none (.t 42), none, 0⟩,
    ⟨(some 44), .cvi .u64 (.t 43), none, 0⟩,
    ⟨(some 45), .call 49 [(.t 44), (.c (.p (.o (.int .i64 4))))] 0, none, 0⟩,
    ⟨(some 46), .bin .add (.t 41) (.t 45), none, 0⟩,
    ⟨(some 47), .mv (.t 6), none, 0⟩,
    ⟨(some 48), .bin .quo (.t 47) (.c (.p (.o (.int .i64 4)))), none, 0⟩,
    ⟨(some 49), .bin .shl (.t 48) (.c (.p (.o (.int .u64 4)))), none, 0⟩,
    ⟨(some 50), .cvi .u8 (.t 49), none, 0⟩,
    ⟨(some 51), .fad 6 (.t 1), none, 0⟩,
    ⟨(some 52), .ld none (.t 51), none, 0⟩,
    ⟨(some 53), .bsl 2 [.int .u8 0, .int .u8 0] [(0, 1, (.t 50)), (1, 1, (.t 52))], none, 0⟩,
    ⟨(some 54), .b2s (.t 53), none, 1⟩,
    ⟨(some 55), .bin .add (.t 46) (.t 54), none, 1⟩,
    ⟨(some 56), .fad 7 (.t 1), none, 1⟩,
    ⟨(some 57), .ld none (.t 56), none, 1⟩,
    ⟨(some 58), .cvi .u64 (.t 57), none, 1⟩,
    ⟨(some 59), .call 49 [(.t 58), (.c (.p (.o (.int .i64 2))))] 0, none, 1⟩,
    ⟨(some 60), .bin .add (.t 55) (.t 59), none, 1⟩,
    ⟨(some 7), .mv (.t 60), none, 1⟩] 1 (some [(0, 5), (1, 5), (2, 5), (3, 5), (4, 5), (0, 6), (1, 6), (2, 6), (3, 6), (4, 6), (0, 7), (1, 7), (2, 7), (3, 7), (4, 7), (0, 8), (1, 8), (2, 8), (3, 8), (4, 8), (0, 11), (1, 11), (2, 11), (3, 11), (4, 11), (5, 11), (6, 11), (7, 11), (8, 11), (9, 11), (10, 11), (0, 12), (1, 12), (2, 12), (3, 12), (4, 12), (5, 12), (6, 12), (7, 12), (8, 12), (9, 12), (10, 12), (0, 13), (1, 13), (2, 13), (3, 13), (4, 13), (5, 13), (6, 13), (7, 13), (8, 13), (9, 13), (10, 13), (10, 14), (0, 16), (1, 16), (2, 16), (3, 16), (4, 16), (5, 16), (6, 16), (7, 16), (8, 16), (9, 16), (10, 16), (11, 16), (12, 16), (13, 16), (14, 16), (15, 16), (0, 17), (1, 17), (2, 17), (3, 17), (4, 17), (5, 17), (6, 17), (7, 17), (8, 17), (9, 17), (10, 17), (11, 17), (12, 17), (13, 17), (14, 17), (15, 17), (0, 18), (1, 18), (2, 18), (3, 18), (4, 18), (5, 18), (6, 18), (7, 18), (8, 18), (9, 18), (10, 18), (11, 18), (12, 18), (13, 18), (14, 18), (15, 18), (10, 19), (15, 19), (0, 21), (1, 21), (2, 21), (3, 21), (4, 21), (5, 21), (6, 21), (7, 21), (8, 21), (9, 21), (10, 21), (11, 21), (12, 21), (13, 21), (14, 21), (15, 21), (16, 21), (17, 21), (18, 21), (19, 21), (20, 21), (0, 22), (1, 22), (2, 22), (3, 22), (4, 22), (5, 22), (6, 22), (7, 22), (8, 22), (9, 22), (10, 22), (11, 22), (12, 22), (13, 22), (14, 22), (15, 22), (16, 22), (17, 22), (18, 22), (19, 22), (20, 22), (0, 23), (1, 23), (2, 23), (3, 23), (4, 23), (5, 23), (6, 23), (7, 23), (8, 23), (9, 23), (10, 23), (11, 23), (12, 23), (13, 23), (14, 23), (15, 23), (16, 23), (17, 23), (18, 23), (19, 23), (20, 23), (0, 24), (1, 24), (2, 24), (3, 24), (4, 24), (5, 24), (6, 24), (7, 24), (8, 24), (9, 24), (10, 24), (11, 24), (12, 24), (13, 24), (14, 24), (15, 24), (16, 24), (17, 24), (18, 24), (19, 24), (20, 24), (0, 25), (1, 25), (2, 25), (3, 25), (4, 25), (5, 25), (6, 25), (7, 25), (8, 25), (9, 25), (10, 25), (11, 25), (12, 25), (13, 25), (14, 25), (15, 25), (16, 25), (17, 25), (18, 25), (19, 25), (20, 25), (21, 25), (22, 25), (23, 25), (24, 25), (0, 26), (1, 26), (2, 26), (3, 26), (4, 26), (5, 26), (6, 26), (7, 26), (8, 26), (9, 26), (10, 26), (11, 26), (12, 26), (13, 26), (14, 26), (15, 26), (16, 26), (17, 26), (18, 26), (19, 26), (20, 26), (21, 26), (22, 26), (23, 26), (24, 26), (0, 27), (1, 27), (2, 27), (3, 27), (4, 27), (5, 27), (6, 27), (7, 27), (8, 27), (9, 27), (10, 27), (11, 27), (12, 27), (13, 27), (14, 27), (15, 27), (16, 27), (17, 27), (18, 27), (19, 27), (20, 27), (0, 28), (1, 28), (2, 28), (3, 28), (4, 28), (5, 28), (6, 28), (7, 28), (8, 28), (9, 28), (10, 28), (11, 28), (12, 28), (13, 28), (14, 28), (15, 28), (16, 28), (17, 28), (18, 28), (19, 28), (20, 28), (0, 30), (1, 30), (2, 30), (3, 30), (4, 30), (5, 30), (6, 30), (7, 30), (8, 30), (9, 30), (10, 30), (11, 30), (12, 30), (13, 30), (14, 30), (15, 30), (16, 30), (17, 30), (18, 30), (19, 30), (20, 30), (21, 30), (22, 30), (23, 30), (24, 30), (25, 30), (26, 30), (27, 30), (28, 30), (29, 30), (0, 31), (1, 31), (2, 31), (3, 31), (4, 31), (5, 31), (6, 31), (7, 31), (8, 31), (9, 31), (10, 31), (11, 31), (12, 31), (13, 31), (14, 31), (15, 31), (16, 31), (17, 31), (18, 31), (19, 31), (20, 31), (21, 31), (22, 31), (23, 31), (24, 31), (25, 31), (26, 31), (27, 31), (28, 31), (29, 31), (0, 32), (1, 32), (2, 32), (3, 32), (4, 32), (5, 32), (6, 32), (7, 32), (8, 32), (9, 32), (10, 32), (11, 32), (12, 32), (13, 32), (14, 32), (15, 32), (16, 32), (17, 32), (18, 32), (19, 32), (20, 32), (21, 32), (22, 32), (23, 32), (24, 32), (25, 32), (26, 32), (27, 32), (28, 32), (29, 32), (10, 33), (15, 33), (20, 33), (21, 33), (22, 33), (23, 33), (24, 33), (25, 33), (26, 33), (27, 33), (28, 33), (29, 33)])) (.seq (.reg [
    ⟨(some 61), .fad 8 (.t 1), none, 0⟩,
    ⟨(some 62), .ld none (.t 61), none, 0⟩,
    ⟨(some 63), .cvi .u64 (.t 62), none, 0⟩,
    ⟨(some 64), .call 49 [(.t 63), (.c (.p (.o (.int .i64 2))))] 0, none, 0⟩,
    ⟨(some 65), .mv (.t 4), none, 0⟩,
    ⟨(some 66), .bin .add (.t 64) (.t 65), none, 0⟩,
    ⟨(some 67), .fad 11 (.t 1), none, 0⟩,
    ⟨(some 68), .ld none (.t 67), none, 0⟩,
    ⟨(some 69), .bin .add (.t 66) (.t 68), none, 0⟩,
    ⟨(some 8), .mv (.t 69), none, 0⟩] 0 (some [(0, 4), (1, 4), (2, 4), (3, 4), (0, 6), (1, 6), (2, 6), (3, 6), (4, 6), (5, 6), (0, 7), (1, 7), (2, 7), (3, 7), (4, 7), (5, 7)])) (.seq (.reg [
    ⟨(some 70), .fad 0 (.t 5), none, 0⟩,
    ⟨(some 71), .fad 0 (.t 70), none, 0⟩,
    ⟨(some 72), .ld none (.t 71), none, 0⟩,
    ⟨(some 73), .fad 2 (.t 5), none, 0⟩,
    ⟨(some 74), .fad 0 (.t 73), none, 0⟩,
    ⟨(some 75), .ld none (.t 74), none, 0⟩,
    ⟨(some 76), .mv (.t 6), none, 0⟩,
    ⟨(some 77), .fad 11 (.t 1), none, 0⟩,
    ⟨(some 78), .ld none (.t 77), none, 0⟩,
    ⟨(some 79), .len false (.t 78), none, 0⟩,
    ⟨(some 80), .bin .add (.t 76) (.t 79), none, 0⟩,
    ⟨(some 81), .call 25 [(.t 72), (.t 75), (.c (.p (.o (.int .u8 6)))), (.t 80)] 0, none, 0⟩,
    ⟨(some 82), .mv (.t 7), none, 0⟩,
    ⟨(some 83), .mv (.t 8), none, 0⟩,
    ⟨(some 84), .bsl 4 [.str ⟨#[]⟩, .str ⟨#[]⟩, .str ⟨#[]⟩, .str ⟨#[]⟩] [(0, 1, (.t 81)), (1, 1, (.t 82)), (2, 1, (.c (.p (.o (.str ⟨#[0, 0]⟩))))), (3, 1, (.t 83))], none, 0⟩,
    ⟨(some 85), .call 19 [(.t 84)] 0, none, 1⟩,
    ⟨(some 9), .mv (.t 85), none, 1⟩] 1 none) (.seq (.reg [
    ⟨(some 86), .mv (.t 7), none, 0⟩,
    ⟨(some 87), .mv (.t 9), none, 0⟩,
    ⟨(some 88), .cvi .u64 (.t 87), none, 0⟩,
    ⟨(some 89), .call 49 [(.t 88), (.c (.p (.o (.int .i64 2))))] 0, none, 0⟩,
    ⟨(some 90), .bin .add (.t 86) (.t 89), none, 0⟩,
    ⟨(some 91), .mv (.t 8), none, 0⟩,
    ⟨(some 92), .bin .add (.t 90) (.t 91), none, 0⟩,
    ⟨(some 2), .mv (.t 92), none, 0⟩,
    ⟨(some 3), .mv (.c (.p (.o (.int .i64 0)))), none, 0⟩] 0 none) .ret))))))))),
  [.tmp 2, .tmp 3], 93, [0, 1, 2, 3, 4, 5, 6, 7, 8, 9]⟩
theorem ok_tcp_Encode : cFn Try.prog eqsT newsT vf_tcp_Encode.keep Try.f36 = some vf_tcp_Encode := by kernel_rfl
def vf_tcp_Len : VFn := ⟨(.seq (.reg [
    ⟨(some 1), .box (.t 0), none, 0⟩,
    ⟨(some 2), .mv (.c (.p (.o (.int .u32 0)))), none, 1⟩] 1 none) (.seq (.reg [
    ⟨(some 7), .fad 11 (.t 1), none, 0⟩,
    ⟨(some 8), .ld none (.t 7), none, 0⟩,
    ⟨(some 9), .len false (.t 8), none, 0⟩,
    ⟨(some 10), .cvi .u32 (.t 9), none, 0⟩,
    ⟨(some 3), .mv (.t 10), none, 0⟩] 0 none) (.seq (.reg [
    ⟨(some 11), .ld (some 12) (.t 1), none, 0⟩,
    ⟨(some 12), .call 61 [(.t 11)] 1, none, 0⟩,
    ⟨(some 4), .mv (.t 12), none, 1⟩] 1 none) (.seq (.seq (.reg [
    ⟨(some 13), .bsl 2 [.int .u8 0, .int .u8 0] [(0, 1, (.c (.p (.o (.int .u8 2))))), (1, 1, (.c (.p (.o (.int .u8 1)))))], none, 0⟩,
    ⟨(some 14), .len true (.t 13), none, 1⟩,
    ⟨(some 15), .mv (.c (.p (.o (.int .i64 0)))), none, 1⟩] 1 none) (.block 0 (.loop (.seq (.reg [
    ⟨(some 16), .bin .lss (.t 15) (.t 14), none, 0⟩] 0 none) (.seq (.cond (.t 16) .skip (.exit 0)) (.seq (.block 1 (.seq (.reg [
    ⟨(some 17), .iad 1 (.t 13) (.t 15), none, 0⟩,
    ⟨(some 18), .ld none (.t 17), none, 0⟩,
    ⟨(some 6), .mv (.t 18), none, 0⟩] 0 none) (.seq (.reg [
    ⟨(some 19), .mv (.t 4), none, 0⟩,
    ⟨(some 20), .mv (.t 6), none, 0⟩,
    ⟨(some 21), .callv (.t 19) [(.t 20)] 0, none, 0⟩] 0 none) (.cond (.t 21) (.reg [
    ⟨(some 22), .mv (.t 3), none, 0⟩,
    ⟨(some 23), .bin .add (.t 22) (.c (.p (.o (.int .u32 1)))), none, 0⟩,
    ⟨(some 3), .mv (.t 23), none, 0⟩] 0 none) .skip)))) (.reg [
    ⟨(some 24), .bin .add (.t 15) (.c (.p (.o (.int .i64 1)))), none, 0⟩,
    ⟨(some 15), .mv (.t 24), none, 0⟩] 0 none))))))) (.seq (.reg [
    ⟨(some 25), .mv (.t 3), none, 0⟩,
    ⟨(some 2), .mv (.t 25), none, 0⟩] 0 none) .ret))))),
  [.tmp 2], 26, [0, 1, 2, 3, 4, 6, 13, 14, 15]⟩
theorem ok_tcp_Len : cFn Try.prog eqsT newsT vf_tcp_Len.keep Try.f44 = some vf_tcp_Len := by kernel_rfl
def vf_tcp_Answer : VFn := ⟨(.seq (.reg [
    ⟨(some 1), .box (.t 0), none, 0⟩,
    ⟨(some 2), .new [.int .u32 0, .int .u16 0, .int .u32 0, .int .u16 0, .int .u32 0, .int .u32 0, .int .u8 0, .int .u16 0, .int .u16 0, .int .u16 0, .int .i64 0, .str ⟨#[]⟩], none, 1⟩,
    ⟨(some 3), .mv (.c (.p (.o (.bool false)))), none, 2⟩] 2 none) (.seq (.reg [
    ⟨(some 6), .ld (some 12) (.t 1), none, 0⟩,
    ⟨(some 7), .call 61 [(.t 6)] 1, none, 0⟩,
    ⟨(some 4), .mv (.t 7), none, 1⟩] 1 none) (.seq (.seq (.reg [
    ⟨(some 8), .mv (.t 4), none, 0⟩,
    ⟨(some 9), .callv (.t 8) [(.c (.p (.o (.int .u8 4))))] 0, none, 0⟩] 0 none) (.cond (.t 9) (.seq (.reg [
    ⟨(some 10), .bld [.int .u32 0, .int .u16 0, .int .u32 0, .int .u16 0, .int .u32 0, .int .u32 0, .int .u8 0, .int .u16 0, .int .u16 0, .int .u16 0, .int .i64 0, .str ⟨#[]⟩] [], none, 0⟩,
    ⟨none, .st 12 (.t 2) (.t 10), none, 0⟩,
    ⟨(some 3), .mv (.c (.p (.o (.bool false)))), none, 0⟩] 0 none) .ret) .skip)) (.seq (.reg [
    ⟨(some 11), .fad 0 (.t 1), none, 0⟩,
    ⟨(some 12), .ld (some 4) (.t 11), none, 0⟩,
    ⟨(some 13), .call 65 [(.t 12)] 0, none, 0⟩,
    ⟨(some 14), .fad 5 (.t 1), none, 0⟩,
    ⟨(some 15), .ld none (.t 14), none, 0⟩,
    ⟨(some 16), .bld [.int .u32 0, .int .u16 0, .int .u32 0, .int .u16 0, .int .u32 0, .int .u32 0, .int .u8 0, .int .u16 0, .int .u16 0, .int .u16 0, .int .i64 0, .str ⟨#[]⟩] [(0, 4, (.t 13)), (4, 1, (.t 15)), (6, 1, (.c (.p (.o (.int .u8 4))))), (10, 1, (.c (.p (.o (.int .i64 (-1))))))], none, 0⟩,
    ⟨(some 5), .new [.int .u32 0, .int .u16 0, .int .u32 0, .int .u16 0, .int .u32 0, .int .u32 0, .int .u8 0, .int .u16 0, .int .u16 0, .int .u16 0, .int .i64 0, .str ⟨#[]⟩], none, 0⟩,
    ⟨none, .st 12 (.t 5) (.t 16), none, 1⟩] 1 (some [(0, 3), (1, 3), (2, 3), (0, 4), (1, 4), (2, 4), (0, 6), (1, 6), (2, 6), (3, 6), (4, 6), (5, 6)])) (.seq (.seq (.reg [
    ⟨(some 17), .mv (.t 4), none, 0⟩,
    ⟨(some 18), .callv (.t 17) [(.c (.p (.o (.int .u8 16))))] 0, none, 0⟩,
    ⟨(some 19), .un .not (.t 18), none, 0⟩] 0 none) (.cond (.t 19) (.reg [
    ⟨(some 20), .fad 4 (.t 1), none, 0⟩,
    ⟨(some 21), .ld none (.t 20), none, 0⟩,
    ⟨(some 22), .ld (some 12) (.t 1), none, 0⟩,
    ⟨(some 23), .call 44 [(.t 22)] 0, none, 0⟩,
    ⟨(some 24), .bin .add (.t 21) (.t 23), none, 0⟩,
    ⟨(some 25), .fad 4 (.t 5), none, 0⟩,
    ⟨none, .st 1 (.t 25) (.c (.p (.o (.int .u32 0)))), none, 0⟩,
    ⟨(some 26), .fad 5 (.t 5), none, 0⟩,
    ⟨none, .st 1 (.t 26) (.t 24), none, 0⟩,
    ⟨(some 27), .fad 6 (.t 5), none, 0⟩,
    ⟨none, .st 1 (.t 27) (.c (.p (.o (.int .u8 20)))), none, 0⟩] 0 (some [(0, 2), (1, 2), (0, 3), (1, 3), (0, 5), (1, 5), (2, 5), (3, 5), (4, 5), (0, 6), (1, 6), (4, 6)])) .skip)) (.seq (.reg [
    ⟨(some 28), .ld (some 12) (.t 5), none, 0⟩,
    ⟨none, .st 12 (.t 2) (.t 28), none, 0⟩,
    ⟨(some 3), .mv (.c (.p (.o (.bool true)))), none, 0⟩] 0 none) .ret)))))),
  [.cell 2 (some 12), .tmp 3], 29, [0, 1, 2, 3, 4, 5]⟩
theorem ok_tcp_Answer : cFn Try.prog eqsT newsT vf_tcp_Answer.keep Try.f40 = some vf_tcp_Answer := by kernel_rfl
def vf_ref16_syn : VFn := ⟨(.seq (.reg [
    ⟨(some 1), .box (.t 0), none, 0⟩,
    ⟨(some 2), .mv (.c (.p (.o (.bool false)))), none, 1⟩] 1 none) (.seq (.reg [
    ⟨(some 3), .fad 6 (.t 1), none, 0⟩,
    ⟨(some 4), .ld none (.t 3), none, 0⟩,
    ⟨(some 5), .bin .and (.t 4) (.c (.p (.o (.int .u8 2)))), none, 0⟩,
    ⟨(some 6), .bin .neq (.t 5) (.c (.p (.o (.int .u8 0)))), none, 0⟩,
    ⟨(some 2), .mv (.t 6), none, 0⟩] 0 none) .ret)),
  [.tmp 2], 7, [0, 1, 2]⟩
theorem ok_ref16_syn : cFn Try.prog eqsT newsT vf_ref16_syn.keep Try.f64 = some vf_ref16_syn := by kernel_rfl
def vf_ref16_May : VFn := ⟨(.seq (.reg [
    ⟨(some 1), .box (.t 0), none, 0⟩,
    ⟨(some 2), .mv (.c (.p (.o (.bool false)))), none, 1⟩] 1 none) (.seq (.seq (.reg [
    ⟨(some 3), .fad 6 (.t 1), none, 0⟩,
    ⟨(some 4), .ld none (.t 3), none, 0⟩,
    ⟨(some 5), .bin .gtr (.t 4) (.c (.p (.o (.int .u8 63)))), none, 0⟩,
    ⟨(some 6), .mv (.t 5), none, 0⟩,
    ⟨(some 7), .ld (some 12) (.t 1), (some (6, false)), 0⟩,
    ⟨(some 8), .call 64 [(.t 7)] 0, (some (6, false)), 0⟩,
    ⟨(some 9), .un .not (.t 8), (some (6, false)), 0⟩,
    ⟨(some 10), .mv (.t 9), (some (6, false)), 0⟩,
    ⟨(some 11), .fad 9 (.t 1), (some (10, true)), 0⟩,
    ⟨(some 12), .ld none (.t 11), (some (10, true)), 0⟩,
    ⟨(some 13), .bin .neq (.t 12) (.c (.p (.o (.int .u16 0)))), (some (10, true)), 0⟩,
    ⟨(some 14), .mv (.t 13), (some (10, true)), 0⟩,
    ⟨(some 15), .fad 10 (.t 1), (some (14, false)), 0⟩,
    ⟨(some 16), .ld none (.t 15), (some (14, false)), 0⟩,
    ⟨(some 17), .bin .neq (.t 16) (.c (.p (.o (.int .i64 (-1))))), (some (14, false)), 0⟩,
    ⟨(some 18), .pick (.t 14) (.c (.p (.o (.bool true)))) (.t 17), (some (10, true)), 0⟩,
    ⟨(some 19), .pick (.t 10) (.t 18) (.c (.p (.o (.bool false)))), (some (6, false)), 0⟩,
    ⟨(some 20), .pick (.t 6) (.c (.p (.o (.bool true)))) (.t 19), none, 0⟩] 0 none) (.cond (.t 20) (.seq (.reg [
    ⟨(some 2), .mv (.c (.p (.o (.bool false)))), none, 0⟩] 0 none) .ret) .skip)) (.seq (.reg [
    ⟨(some 21), .fad 10 (.t 1), none, 0⟩,
    ⟨(some 22), .ld none (.t 21), none, 0⟩,
    ⟨(some 23), .bin .geq (.t 22) (.c (.p (.o (.int .i64 (-1))))), none, 0⟩,
    ⟨(some 24), .mv (.t 23), none, 0⟩,
    ⟨(some 25), .fad 10 (.t 1), (some (24, true)), 0⟩,
    ⟨(some 26), .ld none (.t 25), (some (24, true)), 0⟩,
    ⟨(some 27), .bin .leq (.t 26) (.c (.p (.o (.int .i64 14)))), (some (24, true)), 0⟩,
    ⟨(some 28), .pick (.t 24) (.t 27) (.c (.p (.o (.bool false)))), none, 0⟩,
    ⟨(some 2), .mv (.t 28), none, 0⟩] 0 none) .ret))),
  [.tmp 2], 29, [0, 1, 2]⟩
theorem ok_ref16_May : cFn Try.prog eqsT newsT vf_ref16_May.keep Try.f43 = some vf_ref16_May := by kernel_rfl
def vf_ref16_options : VFn := ⟨(.seq (.reg [
    ⟨(some 1), .box (.t 0), none, 0⟩,
    ⟨(some 2), .mv (.c (.p (.o (.str ⟨#[]⟩)))), none, 1⟩] 1 none) (.seq (.reg [
    ⟨(some 3), .mv (.c (.p (.o (.str ⟨#[]⟩)))), none, 0⟩] 0 none) (.seq (.seq (.reg [
    ⟨(some 4), .fad 9 (.t 1), none, 0⟩,
    ⟨(some 5), .ld none (.t 4), none, 0⟩,
    ⟨(some 6), .bin .gtr (.t 5) (.c (.p (.o (.int .u16 0)))), none, 0⟩] 0 none) (.cond (.t 6) (.reg [
    ⟨(some 7), .fad 9 (.t 1), none, 0⟩,
    ⟨(some 8), .ld none (.t 7), none, 0⟩,
    ⟨(some 9), .cvi .u64 (.t 8), none, 0⟩,
    ⟨(some 10), .call 27 [(.t 9), (.c (.p (.o (.int .i64 2))))] 0, none, 0⟩,
    ⟨(some 11), .bin .add (.c (.p (.o (.str ⟨#[2, 4]⟩)))) (.t 10), none, 0⟩,
    ⟨(some 3), .mv (.t 11), none, 0⟩] 0 none) .skip)) (.seq (.seq (.reg [
    ⟨(some 12), .fad 10 (.t 1), none, 0⟩,
    ⟨(some 13), .ld none (.t 12), none, 0⟩,
    ⟨(some 14), .bin .geq (.t 13) (.c (.p (.o (.int .i64 0)))), none, 0⟩] 0 none) (.cond (.t 14) (.reg [
    ⟨(some 15), .mv (.t 3), none, 0⟩,
    ⟨(some 16), .bin .add (.t 15) (.c (.p (.o (.str ⟨#[1, 3, 3]⟩)))), none, 0⟩,
    ⟨(some 17), .fad 10 (.t 1), none, 0⟩,
    ⟨(some 18), .ld none (.t 17), none, 0⟩,
    ⟨(some 19), .cvi .u8 (.t 18), none, 0⟩,
    ⟨(some 20), .bsl 1 [.int .u8 0] [(0, 1, (.t 19))], none, 0⟩,
    ⟨(some 21), .b2s (.t 20), none, 1⟩,
    ⟨(some 22), .bin .add (.t 16) (.t 21), none, 1⟩,
    ⟨(some 3), .mv (.t 22), none, 1⟩] 1 none) .skip)) (.seq (.reg [
    ⟨(some 23), .mv (.t 3), none, 0⟩,
    ⟨(some 2), .mv (.t 23), none, 0⟩] 0 none) .ret))))),
  [.tmp 2], 24, [0, 1, 2, 3]⟩
theorem ok_ref16_options : cFn Try.prog eqsT newsT vf_ref16_options.keep Try.f58 = some vf_ref16_options := by kernel_rfl
def vf_ref16_Raw : VFn := ⟨(.seq (.reg [
    ⟨(some 2), .box (.t 0), none, 0⟩,
    ⟨(some 4), .mv (.c (.p (.o (.str ⟨#[]⟩)))), none, 1⟩] 1 none) (.seq (.reg [
    ⟨(some 10), .fad 0 (.t 2), none, 0⟩,
    ⟨(some 11), .ld (some 4) (.t 10), none, 0⟩,
    ⟨(some 5), .new [.int .u32 0, .int .u16 0, .int .u32 0, .int .u16 0], none, 0⟩,
    ⟨none, .st 4 (.t 5) (.t 11), none, 1⟩] 1 none) (.seq (.reg [
    ⟨(some 12), .mv (.t 1), none, 0⟩,
    ⟨(some 13), .len false (.t 12), none, 0⟩,
    ⟨(some 14), .bin .add (.c (.p (.o (.int .i64 20)))) (.t 13), none, 0⟩,
    ⟨(some 6), .mv (.t 14), none, 0⟩] 0 none) (.seq (.reg [
    ⟨(some 15), .fad 0 (.t 5), none, 0⟩,
    ⟨(some 16), .fad 1 (.t 15), none, 0⟩,
    ⟨(some 17), .ld none (.t 16), none, 0⟩,
    ⟨(some 18), .cvi .u64 (.t 17), none, 0⟩,
    ⟨(some 19), .call 27 [(.t 18), (.c (.p (.o (.int .i64 2))))] 0, none, 0⟩,
    ⟨(some 20), .fad 2 (.t 5), none, 0⟩,
    ⟨(some 21), .fad 1 (.t 20), none, 0⟩,
    ⟨(some 22), .ld none (.t 21), none, 0⟩,
    ⟨(some 23), .cvi .u64 (.t 22), none, 0⟩,
    ⟨(some 24), .call 27 [(.t 23), (.c (.p (.o (.int .i64 2))))] 0, none, 0⟩,
    ⟨(some 25), .bin .add (.t 19) (.t 24), none, 0⟩,
    ⟨(some 26), .fad 4 (.t 2), none, 0⟩,
    ⟨(some 27), .ld none (.t 26), none, 0⟩,
    ⟨(some 28), .cvi .u64 (.t 27), none, 0⟩,
    ⟨(some 29), .call 27 [(.t 28), (.c (.p (.o (.int .i64 4))))] 0, none, 0⟩,
    ⟨(some 30), .bin .add (.t 25) (.t 29), none, 0⟩,
    ⟨(some 31), .fad 5 (.t 2), none, 0⟩,
    ⟨(some 32), .ld none (.t 31), none, 0⟩,
    ⟨(some 33), .cvi .u64 (.t 32), none, 0⟩,
    ⟨(some 34), .call 27 [(.t 33), (.c (.p (.o (.int .i64 4))))] 0, none, 0⟩,
    ⟨(some 35), .bin .add (.t 30) (.t 34), none, 0⟩,
    ⟨(some 36), .mv (.t 6), none, 0⟩,
    ⟨(some 37), .bin .quo (.t 36) (.c (.p (.o (.int .i64 4)))), none, 0⟩,
    ⟨(some 38), .bin .mul (.c (.p (.o (.int .i64 16)))) (.t 37), none, 0⟩,
    ⟨(some 39), .cvi .u8 (.t 38), none, 0⟩,
    ⟨(some 40), .fad 6 (.t 2), none, 0⟩,
    ⟨(some 41), .ld none (.t 40), none, 0⟩,
    ⟨(some 42), .bsl 2 [.int .u8 0, .int .u8 0] [(0, 1, (.t 39)), (1, 1, (.t 41))], none, 0⟩,
    ⟨(some 43), .b2s (.t 42), none, 1⟩,
    ⟨(some 44), .bin .add (.t 35) (.t 43), none, 1⟩,
    ⟨(some 45), .fad 7 (.t 2), none, 1⟩,
    ⟨(some 46), .ld none (.t 45), none, 1⟩,
    ⟨(some 47), .cvi .u64 (.t 46), none, 1⟩,
    ⟨(some 48), .call 27 [(.t 47), (.c (.p (.o (.int .i64 2))))] 0, none, 1⟩,
    ⟨(some 49), .bin .add (.t 44) (.t 48), none, 1⟩,
    ⟨(some 7), .mv (.t 49), none, 1⟩] 1 (some [(0, 5), (1, 5), (2, 5), (3, 5), (4, 5), (0, 6), (1, 6), (2, 6), (3, 6), (4, 6), (0, 7), (1, 7), (2, 7), (3, 7), (4, 7), (0, 8), (1, 8), (2, 8), (3, 8), (4, 8), (0, 11), (1, 11), (2, 11), (3, 11), (4, 11), (5, 11), (6, 11), (7, 11), (8, 11), (9, 11), (10, 11), (0, 12), (1, 12), (2, 12), (3, 12), (4, 12), (5, 12), (6, 12), (7, 12), (8, 12), (9, 12), (10, 12), (0, 13), (1, 13), (2, 13), (3, 13), (4, 13), (5, 13), (6, 13), (7, 13), (8, 13), (9, 13), (10, 13), (10, 14), (0, 16), (1, 16), (2, 16), (3, 16), (4, 16), (5, 16), (6, 16), (7, 16), (8, 16), (9, 16), (10, 16), (11, 16), (12, 16), (13, 16), (14, 16), (15, 16), (0, 17), (1, 17), (2, 17), (3, 17), (4, 17), (5, 17), (6, 17), (7, 17), (8, 17), (9, 17), (10, 17), (11, 17), (12, 17), (13, 17), (14, 17), (15, 17), (0, 18), (1, 18), (2, 18), (3, 18), (4, 18), (5, 18), (6, 18), (7, 18), (8, 18), (9, 18), (10, 18), (11, 18), (12, 18), (13, 18), (14, 18), (15, 18), (10, 19), (15, 19), (0, 21), (1, 21), (2, 21), (3, 21), (4, 21), (5, 21), (6, 21), (7, 21), (8, 21), (9, 21), (10, 21), (11, 21), (12, 21), (13, 21), (14, 21), (15, 21), (16, 21), (17, 21), (18, 21), (19, 21), (20, 21), (0, 22), (1, 22), (2, 22), (3, 22), (4, 22), (5, 22), (6, 22), (7, 22), (8, 22), (9, 22), (10, 22), (11, 22), (12, 22), (13, 22), (14, 22), (15, 22), (16, 22), (17, 22), (18, 22), (19, 22), (20, 22), (0, 23), (1, 23), (2, 23), (3, 23), (4, 23), (5, 23), (6, 23), (7, 23), (8, 23), (9, 23), (10, 23), (11, 23), (12, 23), (13, 23), (14, 23), (15, 23), (16, 23), (17, 23), (18, 23), (19, 23), (20, 23), (0, 24), (1, 24), (2, 24), (3, 24), (4, 24), (5, 24), (6, 24), (7, 24), (8, 24), (9, 24), (10, 24), (11, 24), (12, 24), (13, 24), (14, 24), (15, 24), (16, 24), (17, 24), (18, 24), (19, 24), (20, 24), (0, 25), (1, 25), (2, 25), (3, 25), (4, 25), (5, 25), (6, 25), (7, 25), (8, 25), (9, 25), (10, 25), (11, 25), (12, 25), (13, 25), (14, 25), (15, 25), (16, 25), (17, 25), (18, 25), (19, 25), (20, 25), (21, 25), (22, 25), (23, 25), (24, 25), (0, 26), (1, 26), (2, 26), (3, 26), (4, 26), (5, 26), (6, 26), (7, 26), (8, 26), (9, 26), (10, 26), (11, 26), (12, 26), (13, 26), (14, 26), (15, 26), (16, 26), (17, 26), (18, 26), (19, 26), (20, 26), (21, 26), (22, 26), (23, 26), (24, 26), (0, 27), (1, 27), (2, 27), (3, 27), (4, 27), (5, 27), (6, 27), (7, 27), (8, 27), (9, 27), (10, 27), (11, 27), (12, 27), (13, 27), (14, 27), (15, 27), (16, 27), (17, 27), (18, 27), (19, 27), (20, 27), (0, 28), (1, 28), (2, 28), (3, 28), (4, 28), (5, 28), (6, 28), (7, 28), (8, 28), (9, 28), (10, 28), (11, 28), (12, 28), (13, 28), (14, 28), (15, 28), (16, 28), (17, 28), (18, 28), (19, 28), (20, 28), (0, 30), (1, 30), (2, 30), (3, 30), (4, 30), (5, 30), (6, 30), (7, 30), (8, 30), (9, 30), (10, 30), (11, 30), (12, 30), (13, 30), (14, 30), (15, 30), (16, 30), (17, 30), (18, 30), (19, 30), (20, 30), (21, 30), (22, 30), (23, 30), (24, 30), (25, 30), (26, 30), (27, 30), (28, 30), (29, 30), (0, 31), (1, 31), (2, 31), (3, 31), (4, 31), (5, 31), (6, 31), (7, 31), (8, 31), (9, 31), (10, 31), (11, 31), (12, 31), (13, 31), (14, 31), (15, 31), (16, 31), (17, 31), (18, 31), (19, 31), (20, 31), (21, 31), (22, 31), (23, 31), (24, 31), (25, 31), (26, 31), (27, 31), (28, 31), (29, 31), (0, 32), (1, 32), (2, 32), (3, 32), (4, 32), (5, 32), (6, 32), (7, 32), (8, 32), (9, 32), (10, 32), (11, 32), (12, 32), (13, 32), (14, 32), (15, 32), (16, 32), (17, 32), (18, 32), (19, 32), (20, 32), (21, 32), (22, 32), (23, 32), (24, 32), (25, 32), (26, 32), (27, 32), (28, 32), (29, 32), (10, 33), (15, 33), (20, 33), (21, 33), (22, 33), (23, 33), (24, 33), (25, 33), (26, 33), (27, 33), (28, 33), (29, 33)])) (.seq (.reg [
    ⟨(some 50), .fad 8 (.t 2), none, 0⟩,
    ⟨(some 51), .ld none (.t 50), none, 0⟩,
    ⟨(some 52), .cvi .u64 (.t 51), none, 0⟩,
    ⟨(some 53), .call 27 [(.t 52), (.c (.p (.o (.int .i64 2))))] 0, none, 0⟩,
    ⟨(some 54), .mv (.t 1), none, 0⟩,
    ⟨(some 55), .bin .add (.t 53) (.t 54), none, 0⟩,
    ⟨(some 56), .fad 11 (.t 2), none, 0⟩,
    ⟨(some 57), .ld none (.t 56), none, 0⟩,
    ⟨(some 58), .bin .add (.t 55) (.t 57), none, 0⟩,
    ⟨(some 8), .mv (.t 58), none, 0⟩] 0 (some [(0, 4), (1, 4), (2, 4), (3, 4), (0, 6), (1, 6), (2, 6), (3, 6), (4, 6), (5, 6), (0, 7), (1, 7), (2, 7), (3, 7), (4, 7), (5, 7)])) (.seq (.reg [
    ⟨(some 59), .fad 0 (.t 5), none, 0⟩,
    ⟨(some 60), .fad 0 (.t 59), none, 0⟩,
    ⟨(some 61), .ld none (.t 60), none, 0⟩,
    ⟨(some 62), .fad 2 (.t 5), none, 0⟩,
    ⟨(some 63), .fad 0 (.t 62), none, 0⟩,
    ⟨(some 64), .ld none (.t 63), none, 0⟩,
    ⟨(some 65), .mv (.t 6), none, 0⟩,
    ⟨(some 66), .fad 11 (.t 2), none, 0⟩,
    ⟨(some 67), .ld none (.t 66), none, 0⟩,
    ⟨(some 68), .len false (.t 67), none, 0⟩,
    ⟨(some 69), .bin .add (.t 65) (.t 68), none, 0⟩,
    ⟨(some 70), .call 26 [(.t 61), (.t 64), (.c (.p (.o (.int .u8 6)))), (.t 69)] 0, none, 0⟩,
    ⟨(some 71), .mv (.t 7), none, 0⟩,
    ⟨(some 72), .bin .add (.t 70) (.t 71), none, 0⟩,
    ⟨(some 73), .bin .add (.t 72) (.c (.p (.o (.str ⟨#[0, 0]⟩)))), none, 0⟩,
    ⟨(some 74), .mv (.t 8), none, 0⟩,
    ⟨(some 75), .bin .add (.t 73) (.t 74), none, 0⟩,
    ⟨(some 76), .call 20 [(.t 75)] 0, none, 0⟩,
    ⟨(some 9), .mv (.t 76), none, 0⟩] 0 none) (.seq (.reg [
    ⟨(some 77), .mv (.t 7), none, 0⟩,
    ⟨(some 78), .mv (.t 9), none, 0⟩,
    ⟨(some 79), .cvi .u64 (.t 78), none, 0⟩,
    ⟨(some 80), .call 27 [(.t 79), (.c (.p (.o (.int .i64 2))))] 0, none, 0⟩,
    ⟨(some 81), .bin .add (.t 77) (.t 80), none, 0⟩,
    ⟨(some 82), .mv (.t 8), none, 0⟩,
    ⟨(some 83), .bin .add (.t 81) (.t 82), none, 0⟩,
    ⟨(some 4), .mv (.t 83), none, 0⟩] 0 none) .ret))))))),
  [.tmp 4], 84, [0, 1, 2, 4, 5, 6, 7, 8, 9]⟩
theorem ok_ref16_Raw : cFn Try.prog eqsT newsT vf_ref16_Raw.keep Try.f46 = some vf_ref16_Raw := by kernel_rfl
def vf_ref16_Encode : VFn := ⟨(.seq (.reg [
    ⟨(some 1), .box (.t 0), none, 0⟩,
    ⟨(some 2), .mv (.c (.p (.o (.str ⟨#[]⟩)))), none, 1⟩,
    ⟨(some 3), .mv (.c (.p (.o (.int .i64 0)))), none, 1⟩] 1 none) (.seq (.seq (.reg [
    ⟨(some 4), .ld (some 12) (.t 1), none, 0⟩,
    ⟨(some 5), .call 43 [(.t 4)] 0, none, 0⟩,
    ⟨(some 6), .un .not (.t 5), none, 0⟩] 0 none) (.cond (.t 6) (.seq (.reg [
    ⟨(some 2), .mv (.c (.p (.o (.str ⟨#[]⟩)))), none, 0⟩,
    ⟨(some 3), .mv (.c (.p (.o (.int .i64 2)))), none, 0⟩] 0 none) .ret) .skip)) (.seq (.seq (.reg [
    ⟨(some 7), .ld (some 12) (.t 1), none, 0⟩,
    ⟨(some 8), .call 58 [(.t 7)] 0, none, 0⟩,
    ⟨(some 9), .len false (.t 8), none, 0⟩,
    ⟨(some 10), .bin .add (.c (.p (.o (.int .i64 20)))) (.t 9), none, 0⟩,
    ⟨(some 11), .fad 11 (.t 1), none, 0⟩,
    ⟨(some 12), .ld none (.t 11), none, 0⟩,
    ⟨(some 13), .len false (.t 12), none, 0⟩,
    ⟨(some 14), .bin .add (.t 10) (.t 13), none, 0⟩,
    ⟨(some 15), .bin .gtr (.t 14) (.c (.p (.o (.int .i64 65515)))), none, 0⟩] 0 (some [(0, 4), (1, 4), (2, 4), (3, 4), (0, 5), (1, 5), (2, 5), (3, 5), (0, 6), (1, 6), (2, 6), (3, 6)])) (.cond (.t 15) (.seq (.reg [
    ⟨(some 2), .mv (.c (.p (.o (.str ⟨#[]⟩)))), none, 0⟩,
    ⟨(some 3), .mv (.c (.p (.o (.int .i64 4)))), none, 0⟩] 0 none) .ret) .skip)) (.seq (.reg [
    ⟨(some 16), .ld (some 12) (.t 1), none, 0⟩,
    ⟨(some 17), .ld (some 12) (.t 1), none, 0⟩,
    ⟨(some 18), .call 58 [(.t 17)] 0, none, 0⟩,
    ⟨(some 19), .call 46 [(.t 16), (.t 18)] 0, none, 0⟩,
    ⟨(some 2), .mv (.t 19), none, 0⟩,
    ⟨(some 3), .mv (.c (.p (.o (.int .i64 0)))), none, 0⟩] 0 (some [(0, 1), (0, 2)])) .ret)))),
  [.tmp 2, .tmp 3], 20, [0, 1, 2, 3]⟩
theorem ok_ref16_Encode : cFn Try.prog eqsT newsT vf_ref16_Encode.keep Try.f37 = some vf_ref16_Encode := by kernel_rfl
def vf_ref16_Len : VFn := ⟨(.seq (.reg [
    ⟨(some 1), .box (.t 0), none, 0⟩,
    ⟨(some 2), .mv (.c (.p (.o (.int .u32 0)))), none, 1⟩] 1 none) (.seq (.reg [
    ⟨(some 4), .fad 11 (.t 1), none, 0⟩,
    ⟨(some 5), .ld none (.t 4), none, 0⟩,
    ⟨(some 6), .len false (.t 5), none, 0⟩,
    ⟨(some 7), .cvi .u32 (.t 6), none, 0⟩,
    ⟨(some 3), .mv (.t 7), none, 0⟩] 0 none) (.seq (.seq (.reg [
    ⟨(some 8), .ld (some 12) (.t 1), none, 0⟩,
    ⟨(some 9), .call 64 [(.t 8)] 0, none, 0⟩] 0 none) (.cond (.t 9) (.reg [
    ⟨(some 10), .mv (.t 3), none, 0⟩,
    ⟨(some 11), .bin .add (.t 10) (.c (.p (.o (.int .u32 1)))), none, 0⟩,
    ⟨(some 3), .mv (.t 11), none, 0⟩] 0 none) .skip)) (.seq (.seq (.reg [
    ⟨(some 12), .fad 6 (.t 1), none, 0⟩,
    ⟨(some 13), .ld none (.t 12), none, 0⟩,
    ⟨(some 14), .bin .and (.t 13) (.c (.p (.o (.int .u8 1)))), none, 0⟩,
    ⟨(some 15), .bin .neq (.t 14) (.c (.p (.o (.int .u8 0)))), none, 0⟩] 0 none) (.cond (.t 15) (.reg [
    ⟨(some 16), .mv (.t 3), none, 0⟩,
    ⟨(some 17), .bin .add (.t 16) (.c (.p (.o (.int .u32 1)))), none, 0⟩,
    ⟨(some 3), .mv (.t 17), none, 0⟩] 0 none) .skip)) (.seq (.reg [
    ⟨(some 18), .mv (.t 3), none, 0⟩,
    ⟨(some 2), .mv (.t 18), none, 0⟩] 0 none) .ret))))),
  [.tmp 2], 19, [0, 1, 2, 3]⟩
theorem ok_ref16_Len : cFn Try.prog eqsT newsT vf_ref16_Len.keep Try.f45 = some vf_ref16_Len := by kernel_rfl
def vf_ref16_Answer : VFn := ⟨(.seq (.reg [
    ⟨(some 1), .box (.t 0), none, 0⟩,
    ⟨(some 2), .new [.int .u32 0, .int .u16 0, .int .u32 0, .int .u16 0, .int .u32 0, .int .u32 0, .int .u8 0, .int .u16 0, .int .u16 0, .int .u16 0, .int .i64 0, .str ⟨#[]⟩], none, 1⟩,
    ⟨(some 3), .mv (.c (.p (.o (.bool false)))), none, 2⟩] 2 none) (.seq (.seq (.reg [
    ⟨(some 5), .fad 6 (.t 1), none, 0⟩,
    ⟨(some 6), .ld none (.t 5), none, 0⟩,
    ⟨(some 7), .bin .and (.t 6) (.c (.p (.o (.int .u8 4)))), none, 0⟩,
    ⟨(some 8), .bin .neq (.t 7) (.c (.p (.o (.int .u8 0)))), none, 0⟩] 0 none) (.cond (.t 8) (.seq (.reg [
    ⟨(some 9), .bld [.int .u32 0, .int .u16 0, .int .u32 0, .int .u16 0, .int .u32 0, .int .u32 0, .int .u8 0, .int .u16 0, .int .u16 0, .int .u16 0, .int .i64 0, .str ⟨#[]⟩] [], none, 0⟩,
    ⟨none, .st 12 (.t 2) (.t 9), none, 0⟩,
    ⟨(some 3), .mv (.c (.p (.o (.bool false)))), none, 0⟩] 0 none) .ret) .skip)) (.seq (.reg [
    ⟨(some 10), .fad 0 (.t 1), none, 0⟩,
    ⟨(some 11), .ld (some 4) (.t 10), none, 0⟩,
    ⟨(some 12), .call 66 [(.t 11)] 0, none, 0⟩,
    ⟨(some 13), .bld [.int .u32 0, .int .u16 0, .int .u32 0, .int .u16 0, .int .u32 0, .int .u32 0, .int .u8 0, .int .u16 0, .int .u16 0, .int .u16 0, .int .i64 0, .str ⟨#[]⟩] [(0, 4, (.t 12)), (6, 1, (.c (.p (.o (.int .u8 4))))), (10, 1, (.c (.p (.o (.int .i64 (-1))))))], none, 0⟩,
    ⟨(some 4), .new [.int .u32 0, .int .u16 0, .int .u32 0, .int .u16 0, .int .u32 0, .int .u32 0, .int .u8 0, .int .u16 0, .int .u16 0, .int .u16 0, .int .i64 0, .str ⟨#[]⟩], none, 0⟩,
    ⟨none, .st 12 (.t 4) (.t 13), none, 1⟩] 1 none) (.seq (.seq (.reg [
    ⟨(some 14), .fad 6 (.t 1), none, 0⟩,
    ⟨(some 15), .ld none (.t 14), none, 0⟩,
    ⟨(some 16), .bin .and (.t 15) (.c (.p (.o (.int .u8 16)))), none, 0⟩,
    ⟨(some 17), .bin .neq (.t 16) (.c (.p (.o (.int .u8 0)))), none, 0⟩] 0 none) (.cond (.t 17) (.seq (.reg [
    ⟨(some 18), .fad 5 (.t 1), none, 0⟩,
    ⟨(some 19), .ld none (.t 18), none, 0⟩,
    ⟨(some 20), .fad 4 (.t 4), none, 0⟩,
    ⟨none, .st 1 (.t 20) (.t 19), none, 0⟩] 0 none) (.seq (.reg [
    ⟨(some 21), .ld (some 12) (.t 4), none, 0⟩,
    ⟨none, .st 12 (.t 2) (.t 21), none, 0⟩,
    ⟨(some 3), .mv (.c (.p (.o (.bool true)))), none, 0⟩] 0 none) .ret)) .skip)) (.seq (.reg [
    ⟨(some 22), .fad 6 (.t 4), none, 0⟩,
    ⟨none, .st 1 (.t 22) (.c (.p (.o (.int .u8 20)))), none, 0⟩] 0 none) (.seq (.reg [
    ⟨(some 23), .fad 4 (.t 1), none, 0⟩,
    ⟨(some 24), .ld none (.t 23), none, 0⟩,
    ⟨(some 25), .ld (some 12) (.t 1), none, 0⟩,
    ⟨(some 26), .call 45 [(.t 25)] 0, none, 0⟩,
    ⟨(some 27), .bin .add (.t 24) (.t 26), none, 0⟩,
    ⟨(some 28), .fad 5 (.t 4), none, 0⟩,
    ⟨none, .st 1 (.t 28) (.t 27), none, 0⟩] 0 (some [(0, 2), (1, 2), (0, 3), (1, 3)])) (.seq (.reg [
    ⟨(some 29), .ld (some 12) (.t 4), none, 0⟩,
    ⟨none, .st 12 (.t 2) (.t 29), none, 0⟩,
    ⟨(some 3), .mv (.c (.p (.o (.bool true)))), none, 0⟩] 0 none) .ret))))))),
  [.cell 2 (some 12), .tmp 3], 30, [0, 1, 2, 3, 4]⟩
theorem ok_ref16_Answer : cFn Try.prog eqsT newsT vf_ref16_Answer.keep Try.f41 = some vf_ref16_Answer := by kernel_rfl
def vf_addr_Turn : VFn := ⟨(.seq (.reg [
    ⟨(some 1), .box (.t 0), none, 0⟩,
    ⟨(some 2), .new [.int .u32 0, .int .u16 0, .int .u32 0, .int .u16 0], none, 1⟩] 2 none) (.seq (.reg [
    ⟨(some 3), .fad 2 (.t 1), none, 0⟩,
    ⟨(some 4), .ld (some 2) (.t 3), none, 0⟩,
    ⟨(some 5), .fad 0 (.t 1), none, 0⟩,
    ⟨(some 6), .ld (some 2) (.t 5), none, 0⟩,
    ⟨(some 7), .bld [.int .u32 0, .int .u16 0, .int .u32 0, .int .u16 0] [(0, 2, (.t 4)), (2, 2, (.t 6))], none, 0⟩,
    ⟨none, .st 4 (.t 2) (.t 7), none, 0⟩] 0 none) .ret)),
  [.cell 2 (some 4)], 8, [0, 1, 2]⟩
theorem ok_addr_Turn : cFn Try.prog eqsT newsT vf_addr_Turn.keep Try.f65 = some vf_addr_Turn := by kernel_rfl
def vf_ref06_Turn : VFn := ⟨(.seq (.reg [
    ⟨(some 1), .box (.t 0), none, 0⟩,
    ⟨(some 2), .new [.int .u32 0, .int .u16 0, .int .u32 0, .int .u16 0], none, 1⟩] 2 none) (.seq (.reg [
    ⟨(some 3), .fad 2 (.t 1), none, 0⟩,
    ⟨(some 4), .ld (some 2) (.t 3), none, 0⟩,
    ⟨(some 5), .fad 0 (.t 1), none, 0⟩,
    ⟨(some 6), .ld (some 2) (.t 5), none, 0⟩,
    ⟨(some 7), .bld [.int .u32 0, .int .u16 0, .int .u32 0, .int .u16 0] [(0, 2, (.t 4)), (2, 2, (.t 6))], none, 0⟩,
    ⟨none, .st 4 (.t 2) (.t 7), none, 0⟩] 0 none) .ret)),
  [.cell 2 (some 4)], 8, [0, 1, 2]⟩
theorem ok_ref06_Turn : cFn Try.prog eqsT newsT vf_ref06_Turn.keep Try.f66 = some vf_ref06_Turn := by kernel_rfl
def vf_seq_Behind : VFn := ⟨(.seq (.reg [
    ⟨(some 4), .mv (.c (.p (.o (.int .i64 0)))), none, 0⟩] 0 none) (.seq (.reg [
    ⟨(some 5), .mv (.t 1), none, 0⟩,
    ⟨(some 6), .mv (.t 0), none, 0⟩,
    ⟨(some 7), .bin .sub (.t 5) (.t 6), none, 0⟩,
    ⟨(some 8), .cvi .i32 (.t 7), none, 0⟩,
    ⟨(some 9), .cvi .i64 (.t 8), none, 0⟩,
    ⟨(some 4), .mv (.t 9), none, 0⟩] 0 none) .ret)),
  [.tmp 4], 10, [0, 1, 4]⟩
theorem ok_seq_Behind : cFn Try.prog eqsT newsT vf_seq_Behind.keep Try.f47 = some vf_seq_Behind := by kernel_rfl
abbrev seg (x p y q sq ac fl wi ur ms sc : Int) (d : ByteArray) : List SV := [.int .u32 x, .int .u16 p, .int .u32 y, .int .u16 q, .int .u32 sq, .int .u32 ac, .int .u8 fl, .int .u16 wi, .int .u16 ur, .int .u16 ms, .int .i64 sc, .str d]
/-- Has it the flag? -/
abbrev flag (fl b : Int) : Bool := (((BitVec.ofInt IntKind.u8.bits fl &&& BitVec.ofInt IntKind.u8.bits b).toNat : Nat) : Int) != 0
def may (fl ms sc : Int) : Bool := decide (fl ≤ 63) && ((flag fl 2 || (ms == 0 && sc == -1)) && (decide (sc ≥ -1) && decide (sc ≤ 14)))
theorem ofB1 (x : Int) (h : 0 ≤ x ∧ x ≤ 255) : Sp.ofB x 1 = ⟨#[UInt8.ofNat x.toNat]⟩ := by
  have e : x % 256 = x := by omega
  simp [Sp.ofB, Sp.ofL, e]
theorem nil_app (a : ByteArray) : ⟨#[]⟩ ++ a = a := by apply ba_ext; rw [Sp.append_toList]; rfl
theorem app_nil (a : ByteArray) : a ++ ⟨#[]⟩ = a := by apply ba_ext; rw [Sp.append_toList]; simp
theorem app_assoc (a b c : ByteArray) : a ++ b ++ c = a ++ (b ++ c) := by apply ba_ext; simp only [Sp.append_toList, List.append_assoc]
def opts (ms sc : Int) : ByteArray := (if ms > 0 then ⟨#[2, 4]⟩ ++ Sp.ofB ms 2 else ⟨#[]⟩) ++ (if sc ≥ 0 then ⟨#[1, 3, 3]⟩ ++ Sp.ofB sc 1 else ⟨#[]⟩)
set_option maxHeartbeats 1000000 in
theorem has_det (x p y q sq ac fl wi ur ms sc : Int) (d : ByteArray) : Det Try.prog 61 [.a (seg x p y q sq ac fl wi ur ms sc d)] [] (vO (.fn 71 [(0, 0)])) [.row true false (seg x p y q sq ac fl wi ur ms sc d)] := by
  refine can_of_W known mix Try.func61 (by kernel_rfl) ok_tcp_has (Nat.le_of_ble_eq_true rfl) ?_
  repeat' ((conv => whnf); first
    | ((with_reducible refine Look.mk ?_); refine ⟨_, rfl, ?_⟩)
    | ((with_reducible refine LookN.zeros ?_))
    | ((with_reducible refine LookN.bytes ?_ ?_); (simp; done))
    | ((with_reducible refine BytesW.bytes ?_))
    | ((with_reducible refine Look.byte ?_ ?_); omega)
    | ((with_reducible refine Look.setb ?_ ?_ ?_); exact bv8_bd _; omega)
    | ((with_reducible refine LookN.setb ?_ ?_ ?_); exact bv8_bd _; omega)
    | ((with_reducible refine LookN.mk ?_); refine ⟨_, rfl, ?_⟩)
    | ((with_reducible refine Need.mk ?_ ?_); first | ((with_reducible refine needB ?_); kernel_rfl) | exact rfl | trivial | omega | exact Nat.le_of_ble_eq_true rfl | (exact ⟨rfl, by omega⟩) | (intro h; first | rfl | cases h) | (simp only [lenS_text, lenS_setN, lenS_zeros]; omega) | (simp only [ByteArray.size_append, size_lit, List.size_toArray, List.length_cons, List.length_nil, Sp.ofB_size, Sp.headB_size]; omega))
    | ((with_reducible refine BytesW.mk ?_); refine ⟨_, rfl, ?_⟩)
    | ((with_reducible refine Test.empty (fun h => ?_) (fun h => ?_)))
    | (with_reducible refine Test.tt ?_)
    | (with_reducible refine Test.ff ?_)
    | ((with_reducible refine Test.dt ?_ ?_); omega)
    | ((with_reducible refine Test.df ?_ ?_); omega)
    | (with_reducible refine Test.d (fun h => ?_) (fun h => ?_))
    | ((with_reducible refine Test.b ?_ ?_); (focus first | assumption | (simp [negB]; done) | exact rfl))
    | ((with_reducible refine Test.nb ?_ ?_); (focus first | assumption | (simp [negB]; done) | exact rfl))
    | (with_reducible refine Test.mk (fun h => ?_) (fun h => ?_))
    | (with_reducible refine Arith.bv8 ?_)
    | (with_reducible refine Arith.bv16 ?_)
    | (with_reducible refine Arith.bv32 ?_)
    | (with_reducible refine Arith.bv64 ?_)
    | ((with_reducible refine Arith.i64 ?_ ?_); omega)
    | ((with_reducible refine Arith.u64 ?_ ?_); omega)
    | ((with_reducible refine Arith.u32 ?_ ?_); omega)
    | ((with_reducible refine Arith.u16 ?_ ?_); omega)
    | ((with_reducible refine Arith.u8 ?_ ?_); omega)
    | ((with_reducible refine Arith.i32 ?_ ?_); omega)
    | (with_reducible refine Arith.mk ?_)
    | (with_reducible refine Ends.mk ?_))
  all_goals first | exact ⟨rfl, rfl⟩ | (refine ⟨?_, rfl⟩; simp_all; done)
set_option maxHeartbeats 1000000 in
theorem has1_det (b : Int) (x p y q sq ac fl wi ur ms sc : Int) (d : ByteArray) : Det Try.prog 71 [.o (.int .u8 b), .o (.ptr 0 0)] [.row true false (seg x p y q sq ac fl wi ur ms sc d)] (vB (flag fl b)) [.row true false (seg x p y q sq ac fl wi ur ms sc d)] := by
  refine can_of_W known mix Try.func71 (by kernel_rfl) ok_tcp_has_1 (Nat.le_of_ble_eq_true rfl) ?_
  repeat' ((conv => whnf); first
    | ((with_reducible refine Look.mk ?_); refine ⟨_, rfl, ?_⟩)
    | ((with_reducible refine LookN.zeros ?_))
    | ((with_reducible refine LookN.bytes ?_ ?_); (simp; done))
    | ((with_reducible refine BytesW.bytes ?_))
    | ((with_reducible refine Look.byte ?_ ?_); omega)
    | ((with_reducible refine Look.setb ?_ ?_ ?_); exact bv8_bd _; omega)
    | ((with_reducible refine LookN.setb ?_ ?_ ?_); exact bv8_bd _; omega)
    | ((with_reducible refine LookN.mk ?_); refine ⟨_, rfl, ?_⟩)
    | ((with_reducible refine Need.mk ?_ ?_); first | ((with_reducible refine needB ?_); kernel_rfl) | exact rfl | trivial | omega | exact Nat.le_of_ble_eq_true rfl | (exact ⟨rfl, by omega⟩) | (intro h; first | rfl | cases h) | (simp only [lenS_text, lenS_setN, lenS_zeros]; omega) | (simp only [ByteArray.size_append, size_lit, List.size_toArray, List.length_cons, List.length_nil, Sp.ofB_size, Sp.headB_size]; omega))
    | ((with_reducible refine BytesW.mk ?_); refine ⟨_, rfl, ?_⟩)
    | ((with_reducible refine Test.empty (fun h => ?_) (fun h => ?_)))
    | (with_reducible refine Test.tt ?_)
    | (with_reducible refine Test.ff ?_)
    | ((with_reducible refine Test.dt ?_ ?_); omega)
    | ((with_reducible refine Test.df ?_ ?_); omega)
    | (with_reducible refine Test.d (fun h => ?_) (fun h => ?_))
    | ((with_reducible refine Test.b ?_ ?_); (focus first | assumption | (simp [negB]; done) | exact rfl))
    | ((with_reducible refine Test.nb ?_ ?_); (focus first | assumption | (simp [negB]; done) | exact rfl))
    | (with_reducible refine Test.mk (fun h => ?_) (fun h => ?_))
    | (with_reducible refine Arith.bv8 ?_)
    | (with_reducible refine Arith.bv16 ?_)
    | (with_reducible refine Arith.bv32 ?_)
    | (with_reducible refine Arith.bv64 ?_)
    | ((with_reducible refine Arith.i64 ?_ ?_); omega)
    | ((with_reducible refine Arith.u64 ?_ ?_); omega)
    | ((with_reducible refine Arith.u32 ?_ ?_); omega)
    | ((with_reducible refine Arith.u16 ?_ ?_); omega)
    | ((with_reducible refine Arith.u8 ?_ ?_); omega)
    | ((with_reducible refine Arith.i32 ?_ ?_); omega)
    | (with_reducible refine Arith.mk ?_)
    | (with_reducible refine Ends.mk ?_))
  all_goals first | exact ⟨rfl, rfl⟩ | (refine ⟨?_, rfl⟩; simp_all; done)
set_option maxHeartbeats 1000000 in
theorem may_det (x p y q sq ac fl wi ur ms sc : Int) (d : ByteArray) : Det Try.prog 42 [.a (seg x p y q sq ac fl wi ur ms sc d)] [] (vB (may fl ms sc)) [] := by
  refine can_of_W known mix Try.func42 (by kernel_rfl) ok_tcp_May (Nat.le_of_ble_eq_true rfl) ?_
  repeat' ((conv => whnf); first
    | ((with_reducible refine Look.mk ?_); refine ⟨_, rfl, ?_⟩)
    | ((with_reducible refine LookN.zeros ?_))
    | ((with_reducible refine LookN.bytes ?_ ?_); (simp; done))
    | ((with_reducible refine BytesW.bytes ?_))
    | ((with_reducible refine Look.byte ?_ ?_); omega)
    | ((with_reducible refine Look.setb ?_ ?_ ?_); exact bv8_bd _; omega)
    | ((with_reducible refine LookN.setb ?_ ?_ ?_); exact bv8_bd _; omega)
    | ((with_reducible refine LookN.mk ?_); refine ⟨_, rfl, ?_⟩)
    | ((with_reducible refine Need.mk ?_ ?_); first | ((with_reducible refine needB ?_); kernel_rfl) | exact rfl | trivial | omega | exact Nat.le_of_ble_eq_true rfl | (exact ⟨rfl, by omega⟩) | (intro h; first | rfl | cases h) | (simp only [lenS_text, lenS_setN, lenS_zeros]; omega) | (simp only [ByteArray.size_append, size_lit, List.size_toArray, List.length_cons, List.length_nil, Sp.ofB_size, Sp.headB_size]; omega))
    | ((with_reducible refine BytesW.mk ?_); refine ⟨_, rfl, ?_⟩)
    | (with_reducible refine CallW.det (has_det ..) ?_)
    | (with_reducible refine CallW.det (has1_det ..) ?_)
    | ((with_reducible refine Test.empty (fun h => ?_) (fun h => ?_)))
    | (with_reducible refine Test.tt ?_)
    | (with_reducible refine Test.ff ?_)
    | ((with_reducible refine Test.dt ?_ ?_); omega)
    | ((with_reducible refine Test.df ?_ ?_); omega)
    | (with_reducible refine Test.d (fun h => ?_) (fun h => ?_))
    | ((with_reducible refine Test.b ?_ ?_); (focus first | assumption | (simp [negB]; done) | exact rfl))
    | ((with_reducible refine Test.nb ?_ ?_); (focus first | assumption | (simp [negB]; done) | exact rfl))
    | (with_reducible refine Test.mk (fun h => ?_) (fun h => ?_))
    | (with_reducible refine Arith.bv8 ?_)
    | (with_reducible refine Arith.bv16 ?_)
    | (with_reducible refine Arith.bv32 ?_)
    | (with_reducible refine Arith.bv64 ?_)
    | ((with_reducible refine Arith.i64 ?_ ?_); omega)
    | ((with_reducible refine Arith.u64 ?_ ?_); omega)
    | ((with_reducible refine Arith.u32 ?_ ?_); omega)
    | ((with_reducible refine Arith.u16 ?_ ?_); omega)
    | ((with_reducible refine Arith.u8 ?_ ?_); omega)
    | ((with_reducible refine Arith.i32 ?_ ?_); omega)
    | (with_reducible refine Arith.mk ?_)
    | (with_reducible refine Ends.mk ?_))
  all_goals first | exact ⟨rfl, rfl⟩ | (refine ⟨?_, rfl⟩; simp_all [may]; done) | (refine ⟨?_, rfl⟩; simp only [may, *]; rfl) | (refine ⟨?_, rfl⟩; simp [may, *]; done)
set_option maxHeartbeats 1000000 in
theorem options_det (x p y q sq ac fl wi ur ms sc : Int) (d : ByteArray) (hms : 0 ≤ ms ∧ ms ≤ 65535) (hsc : -1 ≤ sc ∧ sc ≤ 255) : Det Try.prog 57 [.a (seg x p y q sq ac fl wi ur ms sc d)] [] (vS (opts ms sc)) [] := by
  refine can_of_W known mix Try.func57 (by kernel_rfl) ok_tcp_options (Nat.le_of_ble_eq_true rfl) ?_
  repeat' ((conv => whnf); first
    | ((with_reducible refine Look.mk ?_); refine ⟨_, rfl, ?_⟩)
    | ((with_reducible refine LookN.zeros ?_))
    | ((with_reducible refine LookN.bytes ?_ ?_); (simp; done))
    | ((with_reducible refine BytesW.bytes ?_))
    | ((with_reducible refine Look.byte ?_ ?_); omega)
    | ((with_reducible refine Look.setb ?_ ?_ ?_); exact bv8_bd _; omega)
    | ((with_reducible refine LookN.setb ?_ ?_ ?_); exact bv8_bd _; omega)
    | ((with_reducible refine LookN.mk ?_); refine ⟨_, rfl, ?_⟩)
    | ((with_reducible refine Need.mk ?_ ?_); first | ((with_reducible refine needB ?_); kernel_rfl) | exact rfl | trivial | omega | exact Nat.le_of_ble_eq_true rfl | (exact ⟨rfl, by omega⟩) | (intro h; first | rfl | cases h) | (simp only [lenS_text, lenS_setN, lenS_zeros]; omega) | (simp only [ByteArray.size_append, size_lit, List.size_toArray, List.length_cons, List.length_nil, Sp.ofB_size, Sp.headB_size]; omega))
    | ((with_reducible refine BytesW.mk ?_); refine ⟨_, rfl, ?_⟩)
    | (with_reducible refine CallW.det (has_det ..) ?_)
    | (with_reducible refine CallW.det (has1_det ..) ?_)
    | (with_reducible refine CallW.det (may_det ..) ?_)
    | (with_reducible refine CallW.det (wordOf2 _ (by omega)) ?_)
    | (with_reducible refine CallW.det (wordOf4 _ (by omega)) ?_)
    | (with_reducible refine CallW.det (wordOf1 _ (by omega)) ?_)
    | ((with_reducible refine Test.empty (fun h => ?_) (fun h => ?_)))
    | (with_reducible refine Test.tt ?_)
    | (with_reducible refine Test.ff ?_)
    | ((with_reducible refine Test.dt ?_ ?_); omega)
    | ((with_reducible refine Test.df ?_ ?_); omega)
    | (with_reducible refine Test.d (fun h => ?_) (fun h => ?_))
    | ((with_reducible refine Test.b ?_ ?_); (focus first | assumption | (simp [negB]; done) | exact rfl))
    | ((with_reducible refine Test.nb ?_ ?_); (focus first | assumption | (simp [negB]; done) | exact rfl))
    | (with_reducible refine Test.mk (fun h => ?_) (fun h => ?_))
    | (with_reducible refine Arith.bv8 ?_)
    | (with_reducible refine Arith.bv16 ?_)
    | (with_reducible refine Arith.bv32 ?_)
    | (with_reducible refine Arith.bv64 ?_)
    | ((with_reducible refine Arith.i64 ?_ ?_); omega)
    | ((with_reducible refine Arith.u64 ?_ ?_); omega)
    | ((with_reducible refine Arith.u32 ?_ ?_); omega)
    | ((with_reducible refine Arith.u16 ?_ ?_); omega)
    | ((with_reducible refine Arith.u8 ?_ ?_); omega)
    | ((with_reducible refine Arith.i32 ?_ ?_); omega)
    | (with_reducible refine Arith.mk ?_)
    | (with_reducible refine Ends.mk ?_))
  all_goals first | exact ⟨rfl, rfl⟩ | (refine ⟨?_, rfl⟩; simp_all [opts]; done) | (refine ⟨?_, rfl⟩; unfold opts; (repeat' split) <;> first | rfl | (exfalso; omega))
set_option maxHeartbeats 1000000 in
theorem turn_det (x p y q : Int) : Det Try.prog 65 [.a [.int .u32 x, .int .u16 p, .int .u32 y, .int .u16 q]] [] (.p (.a [.int .u32 y, .int .u16 q, .int .u32 x, .int .u16 p])) [] := by
  refine can_of_W known mix Try.func65 (by kernel_rfl) ok_addr_Turn (Nat.le_of_ble_eq_true rfl) ?_
  repeat' ((conv => whnf); first
    | ((with_reducible refine Look.mk ?_); refine ⟨_, rfl, ?_⟩)
    | ((with_reducible refine LookN.zeros ?_))
    | ((with_reducible refine LookN.bytes ?_ ?_); (simp; done))
    | ((with_reducible refine BytesW.bytes ?_))
    | ((with_reducible refine Look.byte ?_ ?_); omega)
    | ((with_reducible refine Look.setb ?_ ?_ ?_); exact bv8_bd _; omega)
    | ((with_reducible refine LookN.setb ?_ ?_ ?_); exact bv8_bd _; omega)
    | ((with_reducible refine LookN.mk ?_); refine ⟨_, rfl, ?_⟩)
    | ((with_reducible refine Need.mk ?_ ?_); first | ((with_reducible refine needB ?_); kernel_rfl) | exact rfl | trivial | omega | exact Nat.le_of_ble_eq_true rfl | (exact ⟨rfl, by omega⟩) | (intro h; first | rfl | cases h) | (simp only [lenS_text, lenS_setN, lenS_zeros]; omega) | (simp only [ByteArray.size_append, size_lit, List.size_toArray, List.length_cons, List.length_nil, Sp.ofB_size, Sp.headB_size]; omega))
    | ((with_reducible refine BytesW.mk ?_); refine ⟨_, rfl, ?_⟩)
    | ((with_reducible refine Test.empty (fun h => ?_) (fun h => ?_)))
    | (with_reducible refine Test.tt ?_)
    | (with_reducible refine Test.ff ?_)
    | ((with_reducible refine Test.dt ?_ ?_); omega)
    | ((with_reducible refine Test.df ?_ ?_); omega)
    | (with_reducible refine Test.d (fun h => ?_) (fun h => ?_))
    | ((with_reducible refine Test.b ?_ ?_); (focus first | assumption | (simp [negB]; done) | exact rfl))
    | ((with_reducible refine Test.nb ?_ ?_); (focus first | assumption | (simp [negB]; done) | exact rfl))
    | (with_reducible refine Test.mk (fun h => ?_) (fun h => ?_))
    | (with_reducible refine Arith.bv8 ?_)
    | (with_reducible refine Arith.bv16 ?_)
    | (with_reducible refine Arith.bv32 ?_)
    | (with_reducible refine Arith.bv64 ?_)
    | ((with_reducible refine Arith.i64 ?_ ?_); omega)
    | ((with_reducible refine Arith.u64 ?_ ?_); omega)
    | ((with_reducible refine Arith.u32 ?_ ?_); omega)
    | ((with_reducible refine Arith.u16 ?_ ?_); omega)
    | ((with_reducible refine Arith.u8 ?_ ?_); omega)
    | ((with_reducible refine Arith.i32 ?_ ?_); omega)
    | (with_reducible refine Arith.mk ?_)
    | (with_reducible refine Ends.mk ?_))
  all_goals first | exact ⟨rfl, rfl⟩ | (refine ⟨?_, rfl⟩; simp_all; done)
set_option maxHeartbeats 1000000 in
theorem rturn_det (x p y q : Int) : Det Try.prog 66 [.a [.int .u32 x, .int .u16 p, .int .u32 y, .int .u16 q]] [] (.p (.a [.int .u32 y, .int .u16 q, .int .u32 x, .int .u16 p])) [] := by
  refine can_of_W known mix Try.func66 (by kernel_rfl) ok_ref06_Turn (Nat.le_of_ble_eq_true rfl) ?_
  repeat' ((conv => whnf); first
    | ((with_reducible refine Look.mk ?_); refine ⟨_, rfl, ?_⟩)
    | ((with_reducible refine LookN.zeros ?_))
    | ((with_reducible refine LookN.bytes ?_ ?_); (simp; done))
    | ((with_reducible refine BytesW.bytes ?_))
    | ((with_reducible refine Look.byte ?_ ?_); omega)
    | ((with_reducible refine Look.setb ?_ ?_ ?_); exact bv8_bd _; omega)
    | ((with_reducible refine LookN.setb ?_ ?_ ?_); exact bv8_bd _; omega)
    | ((with_reducible refine LookN.mk ?_); refine ⟨_, rfl, ?_⟩)
    | ((with_reducible refine Need.mk ?_ ?_); first | ((with_reducible refine needB ?_); kernel_rfl) | exact rfl | trivial | omega | exact Nat.le_of_ble_eq_true rfl | (exact ⟨rfl, by omega⟩) | (intro h; first | rfl | cases h) | (simp only [lenS_text, lenS_setN, lenS_zeros]; omega) | (simp only [ByteArray.size_append, size_lit, List.size_toArray, List.length_cons, List.length_nil, Sp.ofB_size, Sp.headB_size]; omega))
    | ((with_reducible refine BytesW.mk ?_); refine ⟨_, rfl, ?_⟩)
    | ((with_reducible refine Test.empty (fun h => ?_) (fun h => ?_)))
    | (with_reducible refine Test.tt ?_)
    | (with_reducible refine Test.ff ?_)
    | ((with_reducible refine Test.dt ?_ ?_); omega)
    | ((with_reducible refine Test.df ?_ ?_); omega)
    | (with_reducible refine Test.d (fun h => ?_) (fun h => ?_))
    | ((with_reducible refine Test.b ?_ ?_); (focus first | assumption | (simp [negB]; done) | exact rfl))
    | ((with_reducible refine Test.nb ?_ ?_); (focus first | assumption | (simp [negB]; done) | exact rfl))
    | (with_reducible refine Test.mk (fun h => ?_) (fun h => ?_))
    | (with_reducible refine Arith.bv8 ?_)
    | (with_reducible refine Arith.bv16 ?_)
    | (with_reducible refine Arith.bv32 ?_)
    | (with_reducible refine Arith.bv64 ?_)
    | ((with_reducible refine Arith.i64 ?_ ?_); omega)
    | ((with_reducible refine Arith.u64 ?_ ?_); omega)
    | ((with_reducible refine Arith.u32 ?_ ?_); omega)
    | ((with_reducible refine Arith.u16 ?_ ?_); omega)
    | ((with_reducible refine Arith.u8 ?_ ?_); omega)
    | ((with_reducible refine Arith.i32 ?_ ?_); omega)
    | (with_reducible refine Arith.mk ?_)
    | (with_reducible refine Ends.mk ?_))
  all_goals first | exact ⟨rfl, rfl⟩ | (refine ⟨?_, rfl⟩; simp_all; done)
set_option maxHeartbeats 1000000 in
theorem syn_det (x p y q sq ac fl wi ur ms sc : Int) (d : ByteArray) : Det Try.prog 64 [.a (seg x p y q sq ac fl wi ur ms sc d)] [] (vB (flag fl 2)) [] := by
  refine can_of_W known mix Try.func64 (by kernel_rfl) ok_ref16_syn (Nat.le_of_ble_eq_true rfl) ?_
  repeat' ((conv => whnf); first
    | ((with_reducible refine Look.mk ?_); refine ⟨_, rfl, ?_⟩)
    | ((with_reducible refine LookN.zeros ?_))
    | ((with_reducible refine LookN.bytes ?_ ?_); (simp; done))
    | ((with_reducible refine BytesW.bytes ?_))
    | ((with_reducible refine Look.byte ?_ ?_); omega)
    | ((with_reducible refine Look.setb ?_ ?_ ?_); exact bv8_bd _; omega)
    | ((with_reducible refine LookN.setb ?_ ?_ ?_); exact bv8_bd _; omega)
    | ((with_reducible refine LookN.mk ?_); refine ⟨_, rfl, ?_⟩)
    | ((with_reducible refine Need.mk ?_ ?_); first | ((with_reducible refine needB ?_); kernel_rfl) | exact rfl | trivial | omega | exact Nat.le_of_ble_eq_true rfl | (exact ⟨rfl, by omega⟩) | (intro h; first | rfl | cases h) | (simp only [lenS_text, lenS_setN, lenS_zeros]; omega) | (simp only [ByteArray.size_append, size_lit, List.size_toArray, List.length_cons, List.length_nil, Sp.ofB_size, Sp.headB_size]; omega))
    | ((with_reducible refine BytesW.mk ?_); refine ⟨_, rfl, ?_⟩)
    | ((with_reducible refine Test.empty (fun h => ?_) (fun h => ?_)))
    | (with_reducible refine Test.tt ?_)
    | (with_reducible refine Test.ff ?_)
    | ((with_reducible refine Test.dt ?_ ?_); omega)
    | ((with_reducible refine Test.df ?_ ?_); omega)
    | (with_reducible refine Test.d (fun h => ?_) (fun h => ?_))
    | ((with_reducible refine Test.b ?_ ?_); (focus first | assumption | (simp [negB]; done) | exact rfl))
    | ((with_reducible refine Test.nb ?_ ?_); (focus first | assumption | (simp [negB]; done) | exact rfl))
    | (with_reducible refine Test.mk (fun h => ?_) (fun h => ?_))
    | (with_reducible refine Arith.bv8 ?_)
    | (with_reducible refine Arith.bv16 ?_)
    | (with_reducible refine Arith.bv32 ?_)
    | (with_reducible refine Arith.bv64 ?_)
    | ((with_reducible refine Arith.i64 ?_ ?_); omega)
    | ((with_reducible refine Arith.u64 ?_ ?_); omega)
    | ((with_reducible refine Arith.u32 ?_ ?_); omega)
    | ((with_reducible refine Arith.u16 ?_ ?_); omega)
    | ((with_reducible refine Arith.u8 ?_ ?_); omega)
    | ((with_reducible refine Arith.i32 ?_ ?_); omega)
    | (with_reducible refine Arith.mk ?_)
    | (with_reducible refine Ends.mk ?_))
  all_goals first | exact ⟨rfl, rfl⟩ | (refine ⟨?_, rfl⟩; simp_all; done)
set_option maxHeartbeats 1000000 in
theorem rmay_det (x p y q sq ac fl wi ur ms sc : Int) (d : ByteArray) : Det Try.prog 43 [.a (seg x p y q sq ac fl wi ur ms sc d)] [] (vB (may fl ms sc)) [] := by
  refine can_of_W known mix Try.func43 (by kernel_rfl) ok_ref16_May (Nat.le_of_ble_eq_true rfl) ?_
  repeat' ((conv => whnf); first
    | ((with_reducible refine Look.mk ?_); refine ⟨_, rfl, ?_⟩)
    | ((with_reducible refine LookN.zeros ?_))
    | ((with_reducible refine LookN.bytes ?_ ?_); (simp; done))
    | ((with_reducible refine BytesW.bytes ?_))
    | ((with_reducible refine Look.byte ?_ ?_); omega)
    | ((with_reducible refine Look.setb ?_ ?_ ?_); exact bv8_bd _; omega)
    | ((with_reducible refine LookN.setb ?_ ?_ ?_); exact bv8_bd _; omega)
    | ((with_reducible refine LookN.mk ?_); refine ⟨_, rfl, ?_⟩)
    | ((with_reducible refine Need.mk ?_ ?_); first | ((with_reducible refine needB ?_); kernel_rfl) | exact rfl | trivial | omega | exact Nat.le_of_ble_eq_true rfl | (exact ⟨rfl, by omega⟩) | (intro h; first | rfl | cases h) | (simp only [lenS_text, lenS_setN, lenS_zeros]; omega) | (simp only [ByteArray.size_append, size_lit, List.size_toArray, List.length_cons, List.length_nil, Sp.ofB_size, Sp.headB_size]; omega))
    | ((with_reducible refine BytesW.mk ?_); refine ⟨_, rfl, ?_⟩)
    | (with_reducible refine CallW.det (has_det ..) ?_)
    | (with_reducible refine CallW.det (has1_det ..) ?_)
    | (with_reducible refine CallW.det (may_det ..) ?_)
    | (with_reducible refine CallW.det (syn_det ..) ?_)
    | ((with_reducible refine Test.empty (fun h => ?_) (fun h => ?_)))
    | (with_reducible refine Test.tt ?_)
    | (with_reducible refine Test.ff ?_)
    | ((with_reducible refine Test.dt ?_ ?_); omega)
    | ((with_reducible refine Test.df ?_ ?_); omega)
    | (with_reducible refine Test.d (fun h => ?_) (fun h => ?_))
    | ((with_reducible refine Test.b ?_ ?_); (focus first | assumption | (simp [negB]; done) | exact rfl))
    | ((with_reducible refine Test.nb ?_ ?_); (focus first | assumption | (simp [negB]; done) | exact rfl))
    | (with_reducible refine Test.mk (fun h => ?_) (fun h => ?_))
    | (with_reducible refine Arith.bv8 ?_)
    | (with_reducible refine Arith.bv16 ?_)
    | (with_reducible refine Arith.bv32 ?_)
    | (with_reducible refine Arith.bv64 ?_)
    | ((with_reducible refine Arith.i64 ?_ ?_); omega)
    | ((with_reducible refine Arith.u64 ?_ ?_); omega)
    | ((with_reducible refine Arith.u32 ?_ ?_); omega)
    | ((with_reducible refine Arith.u16 ?_ ?_); omega)
    | ((with_reducible refine Arith.u8 ?_ ?_); omega)
    | ((with_reducible refine Arith.i32 ?_ ?_); omega)
    | (with_reducible refine Arith.mk ?_)
    | (with_reducible refine Ends.mk ?_))
  all_goals first | exact ⟨rfl, rfl⟩ | (refine ⟨?_, rfl⟩; simp_all [may]; done) | (refine ⟨?_, rfl⟩; unfold may; congr 3; grind)
set_option maxHeartbeats 1000000 in
theorem ropts_det (x p y q sq ac fl wi ur ms sc : Int) (d : ByteArray) (hms : 0 ≤ ms ∧ ms ≤ 65535) (hsc : -1 ≤ sc ∧ sc ≤ 255) : Det Try.prog 58 [.a (seg x p y q sq ac fl wi ur ms sc d)] [] (vS (opts ms sc)) [] := by
  refine can_of_W known mix Try.func58 (by kernel_rfl) ok_ref16_options (Nat.le_of_ble_eq_true rfl) ?_
  repeat' ((conv => whnf); first
    | ((with_reducible refine Look.mk ?_); refine ⟨_, rfl, ?_⟩)
    | ((with_reducible refine LookN.zeros ?_))
    | ((with_reducible refine LookN.bytes ?_ ?_); (simp; done))
    | ((with_reducible refine BytesW.bytes ?_))
    | ((with_reducible refine Look.byte ?_ ?_); omega)
    | ((with_reducible refine Look.setb ?_ ?_ ?_); exact bv8_bd _; omega)
    | ((with_reducible refine LookN.setb ?_ ?_ ?_); exact bv8_bd _; omega)
    | ((with_reducible refine LookN.mk ?_); refine ⟨_, rfl, ?_⟩)
    | ((with_reducible refine Need.mk ?_ ?_); first | ((with_reducible refine needB ?_); kernel_rfl) | exact rfl | trivial | omega | exact Nat.le_of_ble_eq_true rfl | (exact ⟨rfl, by omega⟩) | (intro h; first | rfl | cases h) | (simp only [lenS_text, lenS_setN, lenS_zeros]; omega) | (simp only [ByteArray.size_append, size_lit, List.size_toArray, List.length_cons, List.length_nil, Sp.ofB_size, Sp.headB_size]; omega))
    | ((with_reducible refine BytesW.mk ?_); refine ⟨_, rfl, ?_⟩)
    | (with_reducible refine CallW.det (rOf2 _ (by omega)) ?_)
    | ((with_reducible refine Test.empty (fun h => ?_) (fun h => ?_)))
    | (with_reducible refine Test.tt ?_)
    | (with_reducible refine Test.ff ?_)
    | ((with_reducible refine Test.dt ?_ ?_); omega)
    | ((with_reducible refine Test.df ?_ ?_); omega)
    | (with_reducible refine Test.d (fun h => ?_) (fun h => ?_))
    | ((with_reducible refine Test.b ?_ ?_); (focus first | assumption | (simp [negB]; done) | exact rfl))
    | ((with_reducible refine Test.nb ?_ ?_); (focus first | assumption | (simp [negB]; done) | exact rfl))
    | (with_reducible refine Test.mk (fun h => ?_) (fun h => ?_))
    | (with_reducible refine Arith.bv8 ?_)
    | (with_reducible refine Arith.bv16 ?_)
    | (with_reducible refine Arith.bv32 ?_)
    | (with_reducible refine Arith.bv64 ?_)
    | ((with_reducible refine Arith.i64 ?_ ?_); omega)
    | ((with_reducible refine Arith.u64 ?_ ?_); omega)
    | ((with_reducible refine Arith.u32 ?_ ?_); omega)
    | ((with_reducible refine Arith.u16 ?_ ?_); omega)
    | ((with_reducible refine Arith.u8 ?_ ?_); omega)
    | ((with_reducible refine Arith.i32 ?_ ?_); omega)
    | (with_reducible refine Arith.mk ?_)
    | (with_reducible refine Ends.mk ?_))
  all_goals first | exact ⟨rfl, rfl⟩ | (refine ⟨?_, rfl⟩; unfold opts; (repeat' split) <;> first | (exfalso; omega) | (refine congrArg vS ?_; simp only [nil_app, app_nil, app_assoc]; done) | (refine congrArg vS ?_; rw [ofB1 sc (by omega)]; simp only [nil_app, app_nil, app_assoc]; done))
/-- How many numbers it has. -/
def len16 (fl : Int) (d : ByteArray) : Int := IntKind.u32.wrap (d.size + (if flag fl 2 then 1 else 0) + (if flag fl 1 then 1 else 0))
set_option maxHeartbeats 1000000 in
theorem len_det (x p y q sq ac fl wi ur ms sc : Int) (d : ByteArray) (hd : d.size ≤ maxLen) : Det Try.prog 44 [.a (seg x p y q sq ac fl wi ur ms sc d)] [] (vI .u32 (len16 fl d)) [] := by
  refine can_of_W known mix Try.func44 (by kernel_rfl) ok_tcp_Len (Nat.le_of_ble_eq_true rfl) ?_
  repeat' ((conv => whnf); first
    | ((with_reducible refine Look.mk ?_); refine ⟨_, rfl, ?_⟩)
    | ((with_reducible refine LookN.zeros ?_))
    | ((with_reducible refine LookN.bytes ?_ ?_); (simp; done))
    | ((with_reducible refine BytesW.bytes ?_))
    | ((with_reducible refine Look.byte ?_ ?_); omega)
    | ((with_reducible refine Look.setb ?_ ?_ ?_); exact bv8_bd _; omega)
    | ((with_reducible refine LookN.setb ?_ ?_ ?_); exact bv8_bd _; omega)
    | ((with_reducible refine LookN.mk ?_); refine ⟨_, rfl, ?_⟩)
    | ((with_reducible refine Need.mk ?_ ?_); first | ((with_reducible refine needB ?_); kernel_rfl) | exact rfl | trivial | omega | exact Nat.le_of_ble_eq_true rfl | (exact ⟨rfl, by omega⟩) | (intro h; first | rfl | cases h) | (simp only [lenS_text, lenS_setN, lenS_zeros]; omega) | (simp only [ByteArray.size_append, size_lit, List.size_toArray, List.length_cons, List.length_nil, Sp.ofB_size, Sp.headB_size]; omega))
    | ((with_reducible refine BytesW.mk ?_); refine ⟨_, rfl, ?_⟩)
    | (with_reducible refine CallW.det (has_det ..) ?_)
    | (with_reducible refine CallW.det (has1_det ..) ?_)
    | (with_reducible refine CallW.det (may_det ..) ?_)
    | (with_reducible refine CallW.det (syn_det ..) ?_)
    | (with_reducible refine LoopW.unroll (fun X hX => ?_))
    | (refine hX _ _ ?_)
    | ((with_reducible refine Test.empty (fun h => ?_) (fun h => ?_)))
    | (with_reducible refine Test.tt ?_)
    | (with_reducible refine Test.ff ?_)
    | ((with_reducible refine Test.dt ?_ ?_); omega)
    | ((with_reducible refine Test.df ?_ ?_); omega)
    | (with_reducible refine Test.d (fun h => ?_) (fun h => ?_))
    | ((with_reducible refine Test.b ?_ ?_); (focus first | assumption | (simp [negB]; done) | exact rfl))
    | ((with_reducible refine Test.nb ?_ ?_); (focus first | assumption | (simp [negB]; done) | exact rfl))
    | (with_reducible refine Test.mk (fun h => ?_) (fun h => ?_))
    | (with_reducible refine Arith.bv8 ?_)
    | (with_reducible refine Arith.bv16 ?_)
    | (with_reducible refine Arith.bv32 ?_)
    | (with_reducible refine Arith.bv64 ?_)
    | ((with_reducible refine Arith.i64 ?_ ?_); omega)
    | ((with_reducible refine Arith.u64 ?_ ?_); omega)
    | ((with_reducible refine Arith.u32 ?_ ?_); omega)
    | ((with_reducible refine Arith.u16 ?_ ?_); omega)
    | ((with_reducible refine Arith.u8 ?_ ?_); omega)
    | ((with_reducible refine Arith.i32 ?_ ?_); omega)
    | (with_reducible refine Arith.mk ?_)
    | (with_reducible refine Ends.mk ?_))
  all_goals first | exact ⟨rfl, rfl⟩ | (refine ⟨?_, rfl⟩; unfold len16; simp only [flag] at *; simp only [*, if_true, Bool.false_eq_true, if_false, IntKind.wrap_u32, Int.add_zero]; done) | (refine ⟨?_, rfl⟩; unfold len16; simp only [flag] at *; simp only [*, if_true, Bool.false_eq_true, if_false, IntKind.wrap_u32]; congr 3; omega)
set_option maxHeartbeats 1000000 in
theorem rlen_det (x p y q sq ac fl wi ur ms sc : Int) (d : ByteArray) (hd : d.size ≤ maxLen) : Det Try.prog 45 [.a (seg x p y q sq ac fl wi ur ms sc d)] [] (vI .u32 (len16 fl d)) [] := by
  refine can_of_W known mix Try.func45 (by kernel_rfl) ok_ref16_Len (Nat.le_of_ble_eq_true rfl) ?_
  repeat' ((conv => whnf); first
    | ((with_reducible refine Look.mk ?_); refine ⟨_, rfl, ?_⟩)
    | ((with_reducible refine LookN.zeros ?_))
    | ((with_reducible refine LookN.bytes ?_ ?_); (simp; done))
    | ((with_reducible refine BytesW.bytes ?_))
    | ((with_reducible refine Look.byte ?_ ?_); omega)
    | ((with_reducible refine Look.setb ?_ ?_ ?_); exact bv8_bd _; omega)
    | ((with_reducible refine LookN.setb ?_ ?_ ?_); exact bv8_bd _; omega)
    | ((with_reducible refine LookN.mk ?_); refine ⟨_, rfl, ?_⟩)
    | ((with_reducible refine Need.mk ?_ ?_); first | ((with_reducible refine needB ?_); kernel_rfl) | exact rfl | trivial | omega | exact Nat.le_of_ble_eq_true rfl | (exact ⟨rfl, by omega⟩) | (intro h; first | rfl | cases h) | (simp only [lenS_text, lenS_setN, lenS_zeros]; omega) | (simp only [ByteArray.size_append, size_lit, List.size_toArray, List.length_cons, List.length_nil, Sp.ofB_size, Sp.headB_size]; omega))
    | ((with_reducible refine BytesW.mk ?_); refine ⟨_, rfl, ?_⟩)
    | (with_reducible refine CallW.det (has_det ..) ?_)
    | (with_reducible refine CallW.det (has1_det ..) ?_)
    | (with_reducible refine CallW.det (may_det ..) ?_)
    | (with_reducible refine CallW.det (syn_det ..) ?_)
    | (with_reducible refine LoopW.unroll (fun X hX => ?_))
    | (refine hX _ _ ?_)
    | ((with_reducible refine Test.empty (fun h => ?_) (fun h => ?_)))
    | (with_reducible refine Test.tt ?_)
    | (with_reducible refine Test.ff ?_)
    | ((with_reducible refine Test.dt ?_ ?_); omega)
    | ((with_reducible refine Test.df ?_ ?_); omega)
    | (with_reducible refine Test.d (fun h => ?_) (fun h => ?_))
    | ((with_reducible refine Test.b ?_ ?_); (focus first | assumption | (simp [negB]; done) | exact rfl))
    | ((with_reducible refine Test.nb ?_ ?_); (focus first | assumption | (simp [negB]; done) | exact rfl))
    | (with_reducible refine Test.mk (fun h => ?_) (fun h => ?_))
    | (with_reducible refine Arith.bv8 ?_)
    | (with_reducible refine Arith.bv16 ?_)
    | (with_reducible refine Arith.bv32 ?_)
    | (with_reducible refine Arith.bv64 ?_)
    | ((with_reducible refine Arith.i64 ?_ ?_); omega)
    | ((with_reducible refine Arith.u64 ?_ ?_); omega)
    | ((with_reducible refine Arith.u32 ?_ ?_); omega)
    | ((with_reducible refine Arith.u16 ?_ ?_); omega)
    | ((with_reducible refine Arith.u8 ?_ ?_); omega)
    | ((with_reducible refine Arith.i32 ?_ ?_); omega)
    | (with_reducible refine Arith.mk ?_)
    | (with_reducible refine Ends.mk ?_))
  all_goals first | exact ⟨rfl, rfl⟩ | (refine ⟨?_, rfl⟩; unfold len16; simp only [flag] at *; simp only [*, if_true, Bool.false_eq_true, if_false, IntKind.wrap_u32, Int.add_zero]; done) | (refine ⟨?_, rfl⟩; unfold len16; simp only [flag] at *; simp only [*, if_true, Bool.false_eq_true, if_false, IntKind.wrap_u32]; congr 3; omega)
def front16 (p q sq ac fl wi n : Int) : ByteArray := Sp.ofB p 2 ++ Sp.ofB q 2 ++ Sp.ofB sq 4 ++ Sp.ofB ac 4 ++ ⟨#[UInt8.ofNat (16 * (n / 4)).toNat, UInt8.ofNat fl.toNat]⟩ ++ Sp.ofB wi 2
def back16 (ur : Int) (o d : ByteArray) : ByteArray := Sp.ofB ur 2 ++ o ++ d
def sum16 (x p y q sq ac fl wi ur : Int) (o d : ByteArray) : Int := 65535 - Sp.sumB (Sp.headB x y 6 (20 + o.size + d.size) ++ (front16 p q sq ac fl wi (20 + o.size) ++ (⟨#[0, 0]⟩ ++ back16 ur o d)))
/-- A segment's bytes, with these options. -/
def raw16 (x p y q sq ac fl wi ur : Int) (o d : ByteArray) : ByteArray := front16 p q sq ac fl wi (20 + o.size) ++ Sp.ofB (sum16 x p y q sq ac fl wi ur o d) 2 ++ back16 ur o d
theorem sum16_bd (x p y q sq ac fl wi ur : Int) (o d : ByteArray) : 0 ≤ sum16 x p y q sq ac fl wi ur o d ∧ sum16 x p y q sq ac fl wi ur o d ≤ 65535 := by
  have := Sp.sumB_bd (Sp.headB x y 6 (20 + o.size + d.size) ++ (front16 p q sq ac fl wi (20 + o.size) ++ (⟨#[0, 0]⟩ ++ back16 ur o d)))
  unfold sum16; omega
theorem sumB_le (s : ByteArray) : 0 ≤ 65535 - Sp.sumB s ∧ 65535 - Sp.sumB s ≤ 65535 := by have := Sp.sumB_bd s; omega
theorem sumB64 (s : ByteArray) : 0 ≤ 65535 - Sp.sumB s ∧ 65535 - Sp.sumB s ≤ 18446744073709551615 := by have := Sp.sumB_bd s; omega
theorem opts_size (ms sc : Int) : (opts ms sc).size ≤ 8 := by
  unfold opts; split <;> split <;> simp [ByteArray.size_append, size_lit, Sp.ofB_size]
def enc16 (x p y q sq ac fl wi ur ms sc : Int) (d : ByteArray) : ByteArray := if may fl ms sc = true then (if (20 + (opts ms sc).size + d.size : Int) > 65515 then ⟨#[]⟩ else raw16 x p y q sq ac fl wi ur (opts ms sc) d) else ⟨#[]⟩
def enc16e (fl ms sc : Int) (d : ByteArray) : Int := if may fl ms sc = true then (if (20 + (opts ms sc).size + d.size : Int) > 65515 then 4 else 0) else 2
theorem may_bd {fl ms sc : Int} (h : may fl ms sc = true) : fl ≤ 63 ∧ -1 ≤ sc ∧ sc ≤ 14 := by simp [may] at h; omega
set_option maxHeartbeats 1000000 in
theorem enc_no (x p y q sq ac fl wi ur ms sc : Int) (d : ByteArray) (hm : may fl ms sc = false) : Det Try.prog 36 [.a (seg x p y q sq ac fl wi ur ms sc d)] [] (.t [.o (.str (enc16 x p y q sq ac fl wi ur ms sc d)), .o (.int .i64 (enc16e fl ms sc d))]) [] := by
  refine can_of_W known mix Try.func36 (by kernel_rfl) ok_tcp_Encode (Nat.le_of_ble_eq_true rfl) ?_
  repeat' ((conv => whnf); first
    | ((with_reducible refine Look.mk ?_); refine ⟨_, rfl, ?_⟩)
    | ((with_reducible refine LookN.zeros ?_))
    | ((with_reducible refine LookN.bytes ?_ ?_); (simp; done))
    | ((with_reducible refine BytesW.bytes ?_))
    | ((with_reducible refine Look.byte ?_ ?_); omega)
    | ((with_reducible refine Look.setb ?_ ?_ ?_); exact bv8_bd _; omega)
    | ((with_reducible refine LookN.setb ?_ ?_ ?_); exact bv8_bd _; omega)
    | ((with_reducible refine LookN.mk ?_); refine ⟨_, rfl, ?_⟩)
    | ((with_reducible refine Need.mk ?_ ?_); first | ((with_reducible refine needB ?_); kernel_rfl) | exact rfl | trivial | omega | exact Nat.le_of_ble_eq_true rfl | (exact ⟨rfl, by omega⟩) | (intro h; first | rfl | cases h) | (simp only [lenS_text, lenS_setN, lenS_zeros]; omega) | (simp only [ByteArray.size_append, size_lit, List.size_toArray, List.length_cons, List.length_nil, Sp.ofB_size, Sp.headB_size]; omega))
    | ((with_reducible refine BytesW.mk ?_); refine ⟨_, rfl, ?_⟩)
    | (with_reducible refine CallW.det (has_det ..) ?_)
    | (with_reducible refine CallW.det (has1_det ..) ?_)
    | (with_reducible refine CallW.det (may_det ..) ?_)
    | (with_reducible refine CallW.det (syn_det ..) ?_)
    | ((with_reducible refine Test.empty (fun h => ?_) (fun h => ?_)))
    | (with_reducible refine Test.tt ?_)
    | (with_reducible refine Test.ff ?_)
    | ((with_reducible refine Test.dt ?_ ?_); omega)
    | ((with_reducible refine Test.df ?_ ?_); omega)
    | (with_reducible refine Test.d (fun h => ?_) (fun h => ?_))
    | ((with_reducible refine Test.b ?_ ?_); (focus first | assumption | (simp [negB]; done) | exact rfl | (simp only [hm]; done) | (rw [hm]; exact rfl)))
    | ((with_reducible refine Test.nb ?_ ?_); (focus first | assumption | (simp [negB]; done) | exact rfl | (simp only [hm]; done) | (rw [hm]; exact rfl)))
    | (with_reducible refine Test.mk (fun h => ?_) (fun h => ?_))
    | (with_reducible refine Arith.bv8 ?_)
    | (with_reducible refine Arith.bv16 ?_)
    | (with_reducible refine Arith.bv32 ?_)
    | (with_reducible refine Arith.bv64 ?_)
    | ((with_reducible refine Arith.i64 ?_ ?_); omega)
    | ((with_reducible refine Arith.u64 ?_ ?_); omega)
    | ((with_reducible refine Arith.u32 ?_ ?_); omega)
    | ((with_reducible refine Arith.u16 ?_ ?_); omega)
    | ((with_reducible refine Arith.u8 ?_ ?_); omega)
    | ((with_reducible refine Arith.i32 ?_ ?_); omega)
    | ((with_reducible refine Arith.i64 ?_ ?_); simp (discharger := omega) only [Int.tdiv_eq_ediv_of_nonneg, shr_u8_4, shl_u8_4, shr_u16_4, shl_u16_4, shr_u16_8, shl_u16_8, shr_u32_4, shl_u32_4, shr_u32_8, shl_u32_8, shr_u32_16, shl_u32_16, shr_u32_24, shl_u32_24, shr_u64_4, shl_u64_4, shr_u64_8, shl_u64_8, shr_u64_16, shl_u64_16, shr_u64_24, shl_u64_24, shr_u64_40, shl_u64_40, shr_i64_4, shl_i64_4, shr_i64_8, shl_i64_8, shr_i64_16, shl_i64_16, shr_i64_24, shl_i64_24, shr_i64_40, shl_i64_40]; omega)
    | ((with_reducible refine Arith.u64 ?_ ?_); simp (discharger := omega) only [Int.tdiv_eq_ediv_of_nonneg, shr_u8_4, shl_u8_4, shr_u16_4, shl_u16_4, shr_u16_8, shl_u16_8, shr_u32_4, shl_u32_4, shr_u32_8, shl_u32_8, shr_u32_16, shl_u32_16, shr_u32_24, shl_u32_24, shr_u64_4, shl_u64_4, shr_u64_8, shl_u64_8, shr_u64_16, shl_u64_16, shr_u64_24, shl_u64_24, shr_u64_40, shl_u64_40, shr_i64_4, shl_i64_4, shr_i64_8, shl_i64_8, shr_i64_16, shl_i64_16, shr_i64_24, shl_i64_24, shr_i64_40, shl_i64_40]; omega)
    | ((with_reducible refine Arith.u32 ?_ ?_); simp (discharger := omega) only [Int.tdiv_eq_ediv_of_nonneg, shr_u8_4, shl_u8_4, shr_u16_4, shl_u16_4, shr_u16_8, shl_u16_8, shr_u32_4, shl_u32_4, shr_u32_8, shl_u32_8, shr_u32_16, shl_u32_16, shr_u32_24, shl_u32_24, shr_u64_4, shl_u64_4, shr_u64_8, shl_u64_8, shr_u64_16, shl_u64_16, shr_u64_24, shl_u64_24, shr_u64_40, shl_u64_40, shr_i64_4, shl_i64_4, shr_i64_8, shl_i64_8, shr_i64_16, shl_i64_16, shr_i64_24, shl_i64_24, shr_i64_40, shl_i64_40]; omega)
    | ((with_reducible refine Arith.u16 ?_ ?_); simp (discharger := omega) only [Int.tdiv_eq_ediv_of_nonneg, shr_u8_4, shl_u8_4, shr_u16_4, shl_u16_4, shr_u16_8, shl_u16_8, shr_u32_4, shl_u32_4, shr_u32_8, shl_u32_8, shr_u32_16, shl_u32_16, shr_u32_24, shl_u32_24, shr_u64_4, shl_u64_4, shr_u64_8, shl_u64_8, shr_u64_16, shl_u64_16, shr_u64_24, shl_u64_24, shr_u64_40, shl_u64_40, shr_i64_4, shl_i64_4, shr_i64_8, shl_i64_8, shr_i64_16, shl_i64_16, shr_i64_24, shl_i64_24, shr_i64_40, shl_i64_40]; omega)
    | ((with_reducible refine Arith.u8 ?_ ?_); simp (discharger := omega) only [Int.tdiv_eq_ediv_of_nonneg, shr_u8_4, shl_u8_4, shr_u16_4, shl_u16_4, shr_u16_8, shl_u16_8, shr_u32_4, shl_u32_4, shr_u32_8, shl_u32_8, shr_u32_16, shl_u32_16, shr_u32_24, shl_u32_24, shr_u64_4, shl_u64_4, shr_u64_8, shl_u64_8, shr_u64_16, shl_u64_16, shr_u64_24, shl_u64_24, shr_u64_40, shl_u64_40, shr_i64_4, shl_i64_4, shr_i64_8, shl_i64_8, shr_i64_16, shl_i64_16, shr_i64_24, shl_i64_24, shr_i64_40, shl_i64_40]; omega)
    | (with_reducible refine Arith.mk ?_)
    | (with_reducible refine Ends.mk ?_))
  all_goals first | (refine ⟨?_, rfl⟩; simp [enc16, enc16e, hm]; done)
set_option maxHeartbeats 1000000 in
theorem enc_yes (x p y q sq ac fl wi ur ms sc : Int) (d : ByteArray) (hx : 0 ≤ x ∧ x ≤ 4294967295) (hp : 0 ≤ p ∧ p ≤ 65535) (hy : 0 ≤ y ∧ y ≤ 4294967295) (hq : 0 ≤ q ∧ q ≤ 65535) (hsq : 0 ≤ sq ∧ sq ≤ 4294967295) (hac : 0 ≤ ac ∧ ac ≤ 4294967295) (hfl : 0 ≤ fl ∧ fl ≤ 255) (hwi : 0 ≤ wi ∧ wi ≤ 65535) (hur : 0 ≤ ur ∧ ur ≤ 65535) (hms : 0 ≤ ms ∧ ms ≤ 65535) (hsc : -9223372036854775808 ≤ sc ∧ sc ≤ 9223372036854775807) (hd : d.size ≤ 1000000) (hm : may fl ms sc = true) : Det Try.prog 36 [.a (seg x p y q sq ac fl wi ur ms sc d)] [] (.t [.o (.str (enc16 x p y q sq ac fl wi ur ms sc d)), .o (.int .i64 (enc16e fl ms sc d))]) [] := by
  have hmb := may_bd hm
  have hos := opts_size ms sc
  refine can_of_W known mix Try.func36 (by kernel_rfl) ok_tcp_Encode (Nat.le_of_ble_eq_true rfl) ?_
  repeat' ((conv => whnf); first
    | ((with_reducible refine Look.mk ?_); refine ⟨_, rfl, ?_⟩)
    | ((with_reducible refine LookN.zeros ?_))
    | ((with_reducible refine LookN.bytes ?_ ?_); (simp; done))
    | ((with_reducible refine BytesW.bytes ?_))
    | ((with_reducible refine Look.byte ?_ ?_); omega)
    | ((with_reducible refine Look.setb ?_ ?_ ?_); exact bv8_bd _; omega)
    | ((with_reducible refine LookN.setb ?_ ?_ ?_); exact bv8_bd _; omega)
    | ((with_reducible refine LookN.mk ?_); refine ⟨_, rfl, ?_⟩)
    | ((with_reducible refine Need.mk ?_ ?_); first | ((with_reducible refine needB ?_); kernel_rfl) | exact rfl | trivial | omega | exact Nat.le_of_ble_eq_true rfl | (exact ⟨rfl, by omega⟩) | (intro h; first | rfl | cases h) | (simp only [lenS_text, lenS_setN, lenS_zeros]; omega) | (simp only [ByteArray.size_append, size_lit, List.size_toArray, List.length_cons, List.length_nil, Sp.ofB_size, Sp.headB_size]; omega))
    | ((with_reducible refine BytesW.mk ?_); refine ⟨_, rfl, ?_⟩)
    | (with_reducible refine CallW.det (has_det ..) ?_)
    | (with_reducible refine CallW.det (has1_det ..) ?_)
    | (with_reducible refine CallW.det (may_det ..) ?_)
    | (with_reducible refine CallW.det (syn_det ..) ?_)
    | (with_reducible refine CallW.det (options_det _ _ _ _ _ _ _ _ _ _ _ _ (by omega) (by omega)) ?_)
    | (with_reducible refine CallW.det (wordOf2 _ (by first | omega | exact sumB64 _)) ?_)
    | (with_reducible refine CallW.det (wordOf4 _ (by omega)) ?_)
    | (with_reducible refine CallW.det (wordOf1 _ (by omega)) ?_)
    | (with_reducible refine CallW.det (sumOf4 _ _ _ _ _ _ (by simp only [ByteArray.size_append, size_lit, List.size_toArray, List.length_cons, List.length_nil, Sp.ofB_size, Sp.headB_size]; omega)) ?_)
    | (with_reducible refine CallW.det (sumHead_det _ _ _ _ (by omega) (by omega) (by omega) (by omega)) ?_)
    | ((with_reducible refine Arith.u64 ?_ ?_); exact sumB64 _)
    | ((with_reducible refine Arith.u16 ?_ ?_); exact sumB_le _)
    | ((with_reducible refine Test.empty (fun h => ?_) (fun h => ?_)))
    | (with_reducible refine Test.tt ?_)
    | (with_reducible refine Test.ff ?_)
    | ((with_reducible refine Test.dt ?_ ?_); omega)
    | ((with_reducible refine Test.df ?_ ?_); omega)
    | (with_reducible refine Test.d (fun h => ?_) (fun h => ?_))
    | ((with_reducible refine Test.b ?_ ?_); (focus first | assumption | (simp [negB]; done) | exact rfl | (simp only [hm]; done) | (rw [hm]; exact rfl)))
    | ((with_reducible refine Test.nb ?_ ?_); (focus first | assumption | (simp [negB]; done) | exact rfl | (simp only [hm]; done) | (rw [hm]; exact rfl)))
    | (with_reducible refine Test.mk (fun h => ?_) (fun h => ?_))
    | (with_reducible refine Arith.bv8 ?_)
    | (with_reducible refine Arith.bv16 ?_)
    | (with_reducible refine Arith.bv32 ?_)
    | (with_reducible refine Arith.bv64 ?_)
    | ((with_reducible refine Arith.i64 ?_ ?_); omega)
    | ((with_reducible refine Arith.u64 ?_ ?_); omega)
    | ((with_reducible refine Arith.u32 ?_ ?_); omega)
    | ((with_reducible refine Arith.u16 ?_ ?_); omega)
    | ((with_reducible refine Arith.u8 ?_ ?_); omega)
    | ((with_reducible refine Arith.i32 ?_ ?_); omega)
    | ((with_reducible refine Arith.i64 ?_ ?_); simp (discharger := omega) only [Int.tdiv_eq_ediv_of_nonneg, shr_u8_4, shl_u8_4, shr_u16_4, shl_u16_4, shr_u16_8, shl_u16_8, shr_u32_4, shl_u32_4, shr_u32_8, shl_u32_8, shr_u32_16, shl_u32_16, shr_u32_24, shl_u32_24, shr_u64_4, shl_u64_4, shr_u64_8, shl_u64_8, shr_u64_16, shl_u64_16, shr_u64_24, shl_u64_24, shr_u64_40, shl_u64_40, shr_i64_4, shl_i64_4, shr_i64_8, shl_i64_8, shr_i64_16, shl_i64_16, shr_i64_24, shl_i64_24, shr_i64_40, shl_i64_40]; omega)
    | ((with_reducible refine Arith.u64 ?_ ?_); simp (discharger := omega) only [Int.tdiv_eq_ediv_of_nonneg, shr_u8_4, shl_u8_4, shr_u16_4, shl_u16_4, shr_u16_8, shl_u16_8, shr_u32_4, shl_u32_4, shr_u32_8, shl_u32_8, shr_u32_16, shl_u32_16, shr_u32_24, shl_u32_24, shr_u64_4, shl_u64_4, shr_u64_8, shl_u64_8, shr_u64_16, shl_u64_16, shr_u64_24, shl_u64_24, shr_u64_40, shl_u64_40, shr_i64_4, shl_i64_4, shr_i64_8, shl_i64_8, shr_i64_16, shl_i64_16, shr_i64_24, shl_i64_24, shr_i64_40, shl_i64_40]; omega)
    | ((with_reducible refine Arith.u32 ?_ ?_); simp (discharger := omega) only [Int.tdiv_eq_ediv_of_nonneg, shr_u8_4, shl_u8_4, shr_u16_4, shl_u16_4, shr_u16_8, shl_u16_8, shr_u32_4, shl_u32_4, shr_u32_8, shl_u32_8, shr_u32_16, shl_u32_16, shr_u32_24, shl_u32_24, shr_u64_4, shl_u64_4, shr_u64_8, shl_u64_8, shr_u64_16, shl_u64_16, shr_u64_24, shl_u64_24, shr_u64_40, shl_u64_40, shr_i64_4, shl_i64_4, shr_i64_8, shl_i64_8, shr_i64_16, shl_i64_16, shr_i64_24, shl_i64_24, shr_i64_40, shl_i64_40]; omega)
    | ((with_reducible refine Arith.u16 ?_ ?_); simp (discharger := omega) only [Int.tdiv_eq_ediv_of_nonneg, shr_u8_4, shl_u8_4, shr_u16_4, shl_u16_4, shr_u16_8, shl_u16_8, shr_u32_4, shl_u32_4, shr_u32_8, shl_u32_8, shr_u32_16, shl_u32_16, shr_u32_24, shl_u32_24, shr_u64_4, shl_u64_4, shr_u64_8, shl_u64_8, shr_u64_16, shl_u64_16, shr_u64_24, shl_u64_24, shr_u64_40, shl_u64_40, shr_i64_4, shl_i64_4, shr_i64_8, shl_i64_8, shr_i64_16, shl_i64_16, shr_i64_24, shl_i64_24, shr_i64_40, shl_i64_40]; omega)
    | ((with_reducible refine Arith.u8 ?_ ?_); simp (discharger := omega) only [Int.tdiv_eq_ediv_of_nonneg, shr_u8_4, shl_u8_4, shr_u16_4, shl_u16_4, shr_u16_8, shl_u16_8, shr_u32_4, shl_u32_4, shr_u32_8, shl_u32_8, shr_u32_16, shl_u32_16, shr_u32_24, shl_u32_24, shr_u64_4, shl_u64_4, shr_u64_8, shl_u64_8, shr_u64_16, shl_u64_16, shr_u64_24, shl_u64_24, shr_u64_40, shl_u64_40, shr_i64_4, shl_i64_4, shr_i64_8, shl_i64_8, shr_i64_16, shl_i64_16, shr_i64_24, shl_i64_24, shr_i64_40, shl_i64_40]; omega)
    | (with_reducible refine Arith.mk ?_)
    | (with_reducible refine Ends.mk ?_))
  all_goals first | (refine ⟨?_, rfl⟩; unfold enc16 enc16e; rw [if_pos hm, if_pos hm]; split <;> first | rfl | (exfalso; omega) | (rw [shl_i64_4, Int.tdiv_eq_ediv_of_nonneg (by omega), Int.mul_comm]; rfl))
set_option maxHeartbeats 1000000 in
theorem raw_det (x p y q sq ac fl wi ur ms sc : Int) (o d : ByteArray) (hx : 0 ≤ x ∧ x ≤ 4294967295) (hp : 0 ≤ p ∧ p ≤ 65535) (hy : 0 ≤ y ∧ y ≤ 4294967295) (hq : 0 ≤ q ∧ q ≤ 65535) (hsq : 0 ≤ sq ∧ sq ≤ 4294967295) (hac : 0 ≤ ac ∧ ac ≤ 4294967295) (hfl : 0 ≤ fl ∧ fl ≤ 255) (hwi : 0 ≤ wi ∧ wi ≤ 65535) (hur : 0 ≤ ur ∧ ur ≤ 65535) (hms : 0 ≤ ms ∧ ms ≤ 65535) (hsc : -9223372036854775808 ≤ sc ∧ sc ≤ 9223372036854775807) (hd : d.size ≤ 1000000) (ho : o.size ≤ 40) : Det Try.prog 46 [.a (seg x p y q sq ac fl wi ur ms sc d), .o (.str o)] [] (vS (raw16 x p y q sq ac fl wi ur o d)) [] := by
  refine can_of_W known mix Try.func46 (by kernel_rfl) ok_ref16_Raw (Nat.le_of_ble_eq_true rfl) ?_
  repeat' ((conv => whnf); first
    | ((with_reducible refine Look.mk ?_); refine ⟨_, rfl, ?_⟩)
    | ((with_reducible refine LookN.zeros ?_))
    | ((with_reducible refine LookN.bytes ?_ ?_); (simp; done))
    | ((with_reducible refine BytesW.bytes ?_))
    | ((with_reducible refine Look.byte ?_ ?_); omega)
    | ((with_reducible refine Look.setb ?_ ?_ ?_); exact bv8_bd _; omega)
    | ((with_reducible refine LookN.setb ?_ ?_ ?_); exact bv8_bd _; omega)
    | ((with_reducible refine LookN.mk ?_); refine ⟨_, rfl, ?_⟩)
    | ((with_reducible refine Need.mk ?_ ?_); first | ((with_reducible refine needB ?_); kernel_rfl) | exact rfl | trivial | omega | exact Nat.le_of_ble_eq_true rfl | (exact ⟨rfl, by omega⟩) | (intro h; first | rfl | cases h) | (simp only [lenS_text, lenS_setN, lenS_zeros]; omega) | (simp only [ByteArray.size_append, size_lit, List.size_toArray, List.length_cons, List.length_nil, Sp.ofB_size, Sp.headB_size]; omega))
    | ((with_reducible refine BytesW.mk ?_); refine ⟨_, rfl, ?_⟩)
    | (with_reducible refine CallW.det (rOf2 _ (by first | omega | exact sumB64 _)) ?_)
    | (with_reducible refine CallW.det (rOf4 _ (by omega)) ?_)
    | (with_reducible refine CallW.det (rSum _ (by simp only [ByteArray.size_append, size_lit, List.size_toArray, List.length_cons, List.length_nil, Sp.ofB_size, Sp.headB_size]; unfold maxLen; omega)) ?_)
    | (with_reducible refine CallW.det (rHead _ _ _ _ (by omega) (by omega) (by omega) (by omega)) ?_)
    | ((with_reducible refine Arith.u64 ?_ ?_); exact sumB64 _)
    | ((with_reducible refine Arith.u16 ?_ ?_); exact sumB_le _)
    | ((with_reducible refine Test.empty (fun h => ?_) (fun h => ?_)))
    | (with_reducible refine Test.tt ?_)
    | (with_reducible refine Test.ff ?_)
    | ((with_reducible refine Test.dt ?_ ?_); omega)
    | ((with_reducible refine Test.df ?_ ?_); omega)
    | (with_reducible refine Test.d (fun h => ?_) (fun h => ?_))
    | ((with_reducible refine Test.b ?_ ?_); (focus first | assumption | (simp [negB]; done) | exact rfl | (simp only [hm]; done) | (rw [hm]; exact rfl)))
    | ((with_reducible refine Test.nb ?_ ?_); (focus first | assumption | (simp [negB]; done) | exact rfl | (simp only [hm]; done) | (rw [hm]; exact rfl)))
    | (with_reducible refine Test.mk (fun h => ?_) (fun h => ?_))
    | (with_reducible refine Arith.bv8 ?_)
    | (with_reducible refine Arith.bv16 ?_)
    | (with_reducible refine Arith.bv32 ?_)
    | (with_reducible refine Arith.bv64 ?_)
    | ((with_reducible refine Arith.i64 ?_ ?_); omega)
    | ((with_reducible refine Arith.u64 ?_ ?_); omega)
    | ((with_reducible refine Arith.u32 ?_ ?_); omega)
    | ((with_reducible refine Arith.u16 ?_ ?_); omega)
    | ((with_reducible refine Arith.u8 ?_ ?_); omega)
    | ((with_reducible refine Arith.i32 ?_ ?_); omega)
    | ((with_reducible refine Arith.i64 ?_ ?_); simp (discharger := omega) only [Int.tdiv_eq_ediv_of_nonneg, shr_u8_4, shl_u8_4, shr_u16_4, shl_u16_4, shr_u16_8, shl_u16_8, shr_u32_4, shl_u32_4, shr_u32_8, shl_u32_8, shr_u32_16, shl_u32_16, shr_u32_24, shl_u32_24, shr_u64_4, shl_u64_4, shr_u64_8, shl_u64_8, shr_u64_16, shl_u64_16, shr_u64_24, shl_u64_24, shr_u64_40, shl_u64_40, shr_i64_4, shl_i64_4, shr_i64_8, shl_i64_8, shr_i64_16, shl_i64_16, shr_i64_24, shl_i64_24, shr_i64_40, shl_i64_40]; omega)
    | ((with_reducible refine Arith.u64 ?_ ?_); simp (discharger := omega) only [Int.tdiv_eq_ediv_of_nonneg, shr_u8_4, shl_u8_4, shr_u16_4, shl_u16_4, shr_u16_8, shl_u16_8, shr_u32_4, shl_u32_4, shr_u32_8, shl_u32_8, shr_u32_16, shl_u32_16, shr_u32_24, shl_u32_24, shr_u64_4, shl_u64_4, shr_u64_8, shl_u64_8, shr_u64_16, shl_u64_16, shr_u64_24, shl_u64_24, shr_u64_40, shl_u64_40, shr_i64_4, shl_i64_4, shr_i64_8, shl_i64_8, shr_i64_16, shl_i64_16, shr_i64_24, shl_i64_24, shr_i64_40, shl_i64_40]; omega)
    | ((with_reducible refine Arith.u32 ?_ ?_); simp (discharger := omega) only [Int.tdiv_eq_ediv_of_nonneg, shr_u8_4, shl_u8_4, shr_u16_4, shl_u16_4, shr_u16_8, shl_u16_8, shr_u32_4, shl_u32_4, shr_u32_8, shl_u32_8, shr_u32_16, shl_u32_16, shr_u32_24, shl_u32_24, shr_u64_4, shl_u64_4, shr_u64_8, shl_u64_8, shr_u64_16, shl_u64_16, shr_u64_24, shl_u64_24, shr_u64_40, shl_u64_40, shr_i64_4, shl_i64_4, shr_i64_8, shl_i64_8, shr_i64_16, shl_i64_16, shr_i64_24, shl_i64_24, shr_i64_40, shl_i64_40]; omega)
    | ((with_reducible refine Arith.u16 ?_ ?_); simp (discharger := omega) only [Int.tdiv_eq_ediv_of_nonneg, shr_u8_4, shl_u8_4, shr_u16_4, shl_u16_4, shr_u16_8, shl_u16_8, shr_u32_4, shl_u32_4, shr_u32_8, shl_u32_8, shr_u32_16, shl_u32_16, shr_u32_24, shl_u32_24, shr_u64_4, shl_u64_4, shr_u64_8, shl_u64_8, shr_u64_16, shl_u64_16, shr_u64_24, shl_u64_24, shr_u64_40, shl_u64_40, shr_i64_4, shl_i64_4, shr_i64_8, shl_i64_8, shr_i64_16, shl_i64_16, shr_i64_24, shl_i64_24, shr_i64_40, shl_i64_40]; omega)
    | ((with_reducible refine Arith.u8 ?_ ?_); simp (discharger := omega) only [Int.tdiv_eq_ediv_of_nonneg, shr_u8_4, shl_u8_4, shr_u16_4, shl_u16_4, shr_u16_8, shl_u16_8, shr_u32_4, shl_u32_4, shr_u32_8, shl_u32_8, shr_u32_16, shl_u32_16, shr_u32_24, shl_u32_24, shr_u64_4, shl_u64_4, shr_u64_8, shl_u64_8, shr_u64_16, shl_u64_16, shr_u64_24, shl_u64_24, shr_u64_40, shl_u64_40, shr_i64_4, shl_i64_4, shr_i64_8, shl_i64_8, shr_i64_16, shl_i64_16, shr_i64_24, shl_i64_24, shr_i64_40, shl_i64_40]; omega)
    | (with_reducible refine Arith.mk ?_)
    | (with_reducible refine Ends.mk ?_))
  all_goals first | (refine ⟨?_, rfl⟩; rw [Int.tdiv_eq_ediv_of_nonneg (by omega)]; unfold raw16 sum16 front16 back16; simp only [app_assoc]; done)
set_option maxHeartbeats 1000000 in
theorem renc_no (x p y q sq ac fl wi ur ms sc : Int) (d : ByteArray) (hm : may fl ms sc = false) : Det Try.prog 37 [.a (seg x p y q sq ac fl wi ur ms sc d)] [] (.t [.o (.str (enc16 x p y q sq ac fl wi ur ms sc d)), .o (.int .i64 (enc16e fl ms sc d))]) [] := by
  refine can_of_W known mix Try.func37 (by kernel_rfl) ok_ref16_Encode (Nat.le_of_ble_eq_true rfl) ?_
  repeat' ((conv => whnf); first
    | ((with_reducible refine Look.mk ?_); refine ⟨_, rfl, ?_⟩)
    | ((with_reducible refine LookN.zeros ?_))
    | ((with_reducible refine LookN.bytes ?_ ?_); (simp; done))
    | ((with_reducible refine BytesW.bytes ?_))
    | ((with_reducible refine Look.byte ?_ ?_); omega)
    | ((with_reducible refine Look.setb ?_ ?_ ?_); exact bv8_bd _; omega)
    | ((with_reducible refine LookN.setb ?_ ?_ ?_); exact bv8_bd _; omega)
    | ((with_reducible refine LookN.mk ?_); refine ⟨_, rfl, ?_⟩)
    | ((with_reducible refine Need.mk ?_ ?_); first | ((with_reducible refine needB ?_); kernel_rfl) | exact rfl | trivial | omega | exact Nat.le_of_ble_eq_true rfl | (exact ⟨rfl, by omega⟩) | (intro h; first | rfl | cases h) | (simp only [lenS_text, lenS_setN, lenS_zeros]; omega) | (simp only [ByteArray.size_append, size_lit, List.size_toArray, List.length_cons, List.length_nil, Sp.ofB_size, Sp.headB_size]; omega))
    | ((with_reducible refine BytesW.mk ?_); refine ⟨_, rfl, ?_⟩)
    | (with_reducible refine CallW.det (rmay_det ..) ?_)
    | ((with_reducible refine Test.empty (fun h => ?_) (fun h => ?_)))
    | (with_reducible refine Test.tt ?_)
    | (with_reducible refine Test.ff ?_)
    | ((with_reducible refine Test.dt ?_ ?_); omega)
    | ((with_reducible refine Test.df ?_ ?_); omega)
    | (with_reducible refine Test.d (fun h => ?_) (fun h => ?_))
    | ((with_reducible refine Test.b ?_ ?_); (focus first | assumption | (simp [negB]; done) | exact rfl | (simp only [hm]; done) | (rw [hm]; exact rfl)))
    | ((with_reducible refine Test.nb ?_ ?_); (focus first | assumption | (simp [negB]; done) | exact rfl | (simp only [hm]; done) | (rw [hm]; exact rfl)))
    | (with_reducible refine Test.mk (fun h => ?_) (fun h => ?_))
    | (with_reducible refine Arith.bv8 ?_)
    | (with_reducible refine Arith.bv16 ?_)
    | (with_reducible refine Arith.bv32 ?_)
    | (with_reducible refine Arith.bv64 ?_)
    | ((with_reducible refine Arith.i64 ?_ ?_); omega)
    | ((with_reducible refine Arith.u64 ?_ ?_); omega)
    | ((with_reducible refine Arith.u32 ?_ ?_); omega)
    | ((with_reducible refine Arith.u16 ?_ ?_); omega)
    | ((with_reducible refine Arith.u8 ?_ ?_); omega)
    | ((with_reducible refine Arith.i32 ?_ ?_); omega)
    | ((with_reducible refine Arith.i64 ?_ ?_); simp (discharger := omega) only [Int.tdiv_eq_ediv_of_nonneg, shr_u8_4, shl_u8_4, shr_u16_4, shl_u16_4, shr_u16_8, shl_u16_8, shr_u32_4, shl_u32_4, shr_u32_8, shl_u32_8, shr_u32_16, shl_u32_16, shr_u32_24, shl_u32_24, shr_u64_4, shl_u64_4, shr_u64_8, shl_u64_8, shr_u64_16, shl_u64_16, shr_u64_24, shl_u64_24, shr_u64_40, shl_u64_40, shr_i64_4, shl_i64_4, shr_i64_8, shl_i64_8, shr_i64_16, shl_i64_16, shr_i64_24, shl_i64_24, shr_i64_40, shl_i64_40]; omega)
    | ((with_reducible refine Arith.u64 ?_ ?_); simp (discharger := omega) only [Int.tdiv_eq_ediv_of_nonneg, shr_u8_4, shl_u8_4, shr_u16_4, shl_u16_4, shr_u16_8, shl_u16_8, shr_u32_4, shl_u32_4, shr_u32_8, shl_u32_8, shr_u32_16, shl_u32_16, shr_u32_24, shl_u32_24, shr_u64_4, shl_u64_4, shr_u64_8, shl_u64_8, shr_u64_16, shl_u64_16, shr_u64_24, shl_u64_24, shr_u64_40, shl_u64_40, shr_i64_4, shl_i64_4, shr_i64_8, shl_i64_8, shr_i64_16, shl_i64_16, shr_i64_24, shl_i64_24, shr_i64_40, shl_i64_40]; omega)
    | ((with_reducible refine Arith.u32 ?_ ?_); simp (discharger := omega) only [Int.tdiv_eq_ediv_of_nonneg, shr_u8_4, shl_u8_4, shr_u16_4, shl_u16_4, shr_u16_8, shl_u16_8, shr_u32_4, shl_u32_4, shr_u32_8, shl_u32_8, shr_u32_16, shl_u32_16, shr_u32_24, shl_u32_24, shr_u64_4, shl_u64_4, shr_u64_8, shl_u64_8, shr_u64_16, shl_u64_16, shr_u64_24, shl_u64_24, shr_u64_40, shl_u64_40, shr_i64_4, shl_i64_4, shr_i64_8, shl_i64_8, shr_i64_16, shl_i64_16, shr_i64_24, shl_i64_24, shr_i64_40, shl_i64_40]; omega)
    | ((with_reducible refine Arith.u16 ?_ ?_); simp (discharger := omega) only [Int.tdiv_eq_ediv_of_nonneg, shr_u8_4, shl_u8_4, shr_u16_4, shl_u16_4, shr_u16_8, shl_u16_8, shr_u32_4, shl_u32_4, shr_u32_8, shl_u32_8, shr_u32_16, shl_u32_16, shr_u32_24, shl_u32_24, shr_u64_4, shl_u64_4, shr_u64_8, shl_u64_8, shr_u64_16, shl_u64_16, shr_u64_24, shl_u64_24, shr_u64_40, shl_u64_40, shr_i64_4, shl_i64_4, shr_i64_8, shl_i64_8, shr_i64_16, shl_i64_16, shr_i64_24, shl_i64_24, shr_i64_40, shl_i64_40]; omega)
    | ((with_reducible refine Arith.u8 ?_ ?_); simp (discharger := omega) only [Int.tdiv_eq_ediv_of_nonneg, shr_u8_4, shl_u8_4, shr_u16_4, shl_u16_4, shr_u16_8, shl_u16_8, shr_u32_4, shl_u32_4, shr_u32_8, shl_u32_8, shr_u32_16, shl_u32_16, shr_u32_24, shl_u32_24, shr_u64_4, shl_u64_4, shr_u64_8, shl_u64_8, shr_u64_16, shl_u64_16, shr_u64_24, shl_u64_24, shr_u64_40, shl_u64_40, shr_i64_4, shl_i64_4, shr_i64_8, shl_i64_8, shr_i64_16, shl_i64_16, shr_i64_24, shl_i64_24, shr_i64_40, shl_i64_40]; omega)
    | (with_reducible refine Arith.mk ?_)
    | (with_reducible refine Ends.mk ?_))
  all_goals first | (refine ⟨?_, rfl⟩; simp [enc16, enc16e, hm]; done)
set_option maxHeartbeats 1000000 in
theorem renc_yes (x p y q sq ac fl wi ur ms sc : Int) (d : ByteArray) (hx : 0 ≤ x ∧ x ≤ 4294967295) (hp : 0 ≤ p ∧ p ≤ 65535) (hy : 0 ≤ y ∧ y ≤ 4294967295) (hq : 0 ≤ q ∧ q ≤ 65535) (hsq : 0 ≤ sq ∧ sq ≤ 4294967295) (hac : 0 ≤ ac ∧ ac ≤ 4294967295) (hfl : 0 ≤ fl ∧ fl ≤ 255) (hwi : 0 ≤ wi ∧ wi ≤ 65535) (hur : 0 ≤ ur ∧ ur ≤ 65535) (hms : 0 ≤ ms ∧ ms ≤ 65535) (hsc : -9223372036854775808 ≤ sc ∧ sc ≤ 9223372036854775807) (hd : d.size ≤ 1000000) (hm : may fl ms sc = true) : Det Try.prog 37 [.a (seg x p y q sq ac fl wi ur ms sc d)] [] (.t [.o (.str (enc16 x p y q sq ac fl wi ur ms sc d)), .o (.int .i64 (enc16e fl ms sc d))]) [] := by
  have hmb := may_bd hm
  have hos := opts_size ms sc
  refine can_of_W known mix Try.func37 (by kernel_rfl) ok_ref16_Encode (Nat.le_of_ble_eq_true rfl) ?_
  repeat' ((conv => whnf); first
    | ((with_reducible refine Look.mk ?_); refine ⟨_, rfl, ?_⟩)
    | ((with_reducible refine LookN.zeros ?_))
    | ((with_reducible refine LookN.bytes ?_ ?_); (simp; done))
    | ((with_reducible refine BytesW.bytes ?_))
    | ((with_reducible refine Look.byte ?_ ?_); omega)
    | ((with_reducible refine Look.setb ?_ ?_ ?_); exact bv8_bd _; omega)
    | ((with_reducible refine LookN.setb ?_ ?_ ?_); exact bv8_bd _; omega)
    | ((with_reducible refine LookN.mk ?_); refine ⟨_, rfl, ?_⟩)
    | ((with_reducible refine Need.mk ?_ ?_); first | ((with_reducible refine needB ?_); kernel_rfl) | exact rfl | trivial | omega | exact Nat.le_of_ble_eq_true rfl | (exact ⟨rfl, by omega⟩) | (intro h; first | rfl | cases h) | (simp only [lenS_text, lenS_setN, lenS_zeros]; omega) | (simp only [ByteArray.size_append, size_lit, List.size_toArray, List.length_cons, List.length_nil, Sp.ofB_size, Sp.headB_size]; omega))
    | ((with_reducible refine BytesW.mk ?_); refine ⟨_, rfl, ?_⟩)
    | (with_reducible refine CallW.det (rmay_det ..) ?_)
    | (with_reducible refine CallW.det (ropts_det _ _ _ _ _ _ _ _ _ _ _ _ (by omega) (by omega)) ?_)
    | (with_reducible refine CallW.det (raw_det _ _ _ _ _ _ _ _ _ _ _ _ _ hx hp hy hq hsq hac hfl hwi hur hms hsc hd (by omega)) ?_)
    | ((with_reducible refine Test.empty (fun h => ?_) (fun h => ?_)))
    | (with_reducible refine Test.tt ?_)
    | (with_reducible refine Test.ff ?_)
    | ((with_reducible refine Test.dt ?_ ?_); omega)
    | ((with_reducible refine Test.df ?_ ?_); omega)
    | (with_reducible refine Test.d (fun h => ?_) (fun h => ?_))
    | ((with_reducible refine Test.b ?_ ?_); (focus first | assumption | (simp [negB]; done) | exact rfl | (simp only [hm]; done) | (rw [hm]; exact rfl)))
    | ((with_reducible refine Test.nb ?_ ?_); (focus first | assumption | (simp [negB]; done) | exact rfl | (simp only [hm]; done) | (rw [hm]; exact rfl)))
    | (with_reducible refine Test.mk (fun h => ?_) (fun h => ?_))
    | (with_reducible refine Arith.bv8 ?_)
    | (with_reducible refine Arith.bv16 ?_)
    | (with_reducible refine Arith.bv32 ?_)
    | (with_reducible refine Arith.bv64 ?_)
    | ((with_reducible refine Arith.i64 ?_ ?_); omega)
    | ((with_reducible refine Arith.u64 ?_ ?_); omega)
    | ((with_reducible refine Arith.u32 ?_ ?_); omega)
    | ((with_reducible refine Arith.u16 ?_ ?_); omega)
    | ((with_reducible refine Arith.u8 ?_ ?_); omega)
    | ((with_reducible refine Arith.i32 ?_ ?_); omega)
    | ((with_reducible refine Arith.i64 ?_ ?_); simp (discharger := omega) only [Int.tdiv_eq_ediv_of_nonneg, shr_u8_4, shl_u8_4, shr_u16_4, shl_u16_4, shr_u16_8, shl_u16_8, shr_u32_4, shl_u32_4, shr_u32_8, shl_u32_8, shr_u32_16, shl_u32_16, shr_u32_24, shl_u32_24, shr_u64_4, shl_u64_4, shr_u64_8, shl_u64_8, shr_u64_16, shl_u64_16, shr_u64_24, shl_u64_24, shr_u64_40, shl_u64_40, shr_i64_4, shl_i64_4, shr_i64_8, shl_i64_8, shr_i64_16, shl_i64_16, shr_i64_24, shl_i64_24, shr_i64_40, shl_i64_40]; omega)
    | ((with_reducible refine Arith.u64 ?_ ?_); simp (discharger := omega) only [Int.tdiv_eq_ediv_of_nonneg, shr_u8_4, shl_u8_4, shr_u16_4, shl_u16_4, shr_u16_8, shl_u16_8, shr_u32_4, shl_u32_4, shr_u32_8, shl_u32_8, shr_u32_16, shl_u32_16, shr_u32_24, shl_u32_24, shr_u64_4, shl_u64_4, shr_u64_8, shl_u64_8, shr_u64_16, shl_u64_16, shr_u64_24, shl_u64_24, shr_u64_40, shl_u64_40, shr_i64_4, shl_i64_4, shr_i64_8, shl_i64_8, shr_i64_16, shl_i64_16, shr_i64_24, shl_i64_24, shr_i64_40, shl_i64_40]; omega)
    | ((with_reducible refine Arith.u32 ?_ ?_); simp (discharger := omega) only [Int.tdiv_eq_ediv_of_nonneg, shr_u8_4, shl_u8_4, shr_u16_4, shl_u16_4, shr_u16_8, shl_u16_8, shr_u32_4, shl_u32_4, shr_u32_8, shl_u32_8, shr_u32_16, shl_u32_16, shr_u32_24, shl_u32_24, shr_u64_4, shl_u64_4, shr_u64_8, shl_u64_8, shr_u64_16, shl_u64_16, shr_u64_24, shl_u64_24, shr_u64_40, shl_u64_40, shr_i64_4, shl_i64_4, shr_i64_8, shl_i64_8, shr_i64_16, shl_i64_16, shr_i64_24, shl_i64_24, shr_i64_40, shl_i64_40]; omega)
    | ((with_reducible refine Arith.u16 ?_ ?_); simp (discharger := omega) only [Int.tdiv_eq_ediv_of_nonneg, shr_u8_4, shl_u8_4, shr_u16_4, shl_u16_4, shr_u16_8, shl_u16_8, shr_u32_4, shl_u32_4, shr_u32_8, shl_u32_8, shr_u32_16, shl_u32_16, shr_u32_24, shl_u32_24, shr_u64_4, shl_u64_4, shr_u64_8, shl_u64_8, shr_u64_16, shl_u64_16, shr_u64_24, shl_u64_24, shr_u64_40, shl_u64_40, shr_i64_4, shl_i64_4, shr_i64_8, shl_i64_8, shr_i64_16, shl_i64_16, shr_i64_24, shl_i64_24, shr_i64_40, shl_i64_40]; omega)
    | ((with_reducible refine Arith.u8 ?_ ?_); simp (discharger := omega) only [Int.tdiv_eq_ediv_of_nonneg, shr_u8_4, shl_u8_4, shr_u16_4, shl_u16_4, shr_u16_8, shl_u16_8, shr_u32_4, shl_u32_4, shr_u32_8, shl_u32_8, shr_u32_16, shl_u32_16, shr_u32_24, shl_u32_24, shr_u64_4, shl_u64_4, shr_u64_8, shl_u64_8, shr_u64_16, shl_u64_16, shr_u64_24, shl_u64_24, shr_u64_40, shl_u64_40, shr_i64_4, shl_i64_4, shr_i64_8, shl_i64_8, shr_i64_16, shl_i64_16, shr_i64_24, shl_i64_24, shr_i64_40, shl_i64_40]; omega)
    | (with_reducible refine Arith.mk ?_)
    | (with_reducible refine Ends.mk ?_))
  all_goals first | (refine ⟨?_, rfl⟩; unfold enc16 enc16e; rw [if_pos hm, if_pos hm]; split <;> first | rfl | (exfalso; omega))
theorem enc_det (x p y q sq ac fl wi ur ms sc : Int) (d : ByteArray) (hx : 0 ≤ x ∧ x ≤ 4294967295) (hp : 0 ≤ p ∧ p ≤ 65535) (hy : 0 ≤ y ∧ y ≤ 4294967295) (hq : 0 ≤ q ∧ q ≤ 65535) (hsq : 0 ≤ sq ∧ sq ≤ 4294967295) (hac : 0 ≤ ac ∧ ac ≤ 4294967295) (hfl : 0 ≤ fl ∧ fl ≤ 255) (hwi : 0 ≤ wi ∧ wi ≤ 65535) (hur : 0 ≤ ur ∧ ur ≤ 65535) (hms : 0 ≤ ms ∧ ms ≤ 65535) (hsc : -9223372036854775808 ≤ sc ∧ sc ≤ 9223372036854775807) (hd : d.size ≤ 1000000) : Det Try.prog 36 [.a (seg x p y q sq ac fl wi ur ms sc d)] [] (.t [.o (.str (enc16 x p y q sq ac fl wi ur ms sc d)), .o (.int .i64 (enc16e fl ms sc d))]) [] := by
  cases hm : may fl ms sc with
  | false => exact enc_no _ _ _ _ _ _ _ _ _ _ _ _ hm
  | true => exact enc_yes _ _ _ _ _ _ _ _ _ _ _ _ hx hp hy hq hsq hac hfl hwi hur hms hsc hd hm
theorem renc_det (x p y q sq ac fl wi ur ms sc : Int) (d : ByteArray) (hx : 0 ≤ x ∧ x ≤ 4294967295) (hp : 0 ≤ p ∧ p ≤ 65535) (hy : 0 ≤ y ∧ y ≤ 4294967295) (hq : 0 ≤ q ∧ q ≤ 65535) (hsq : 0 ≤ sq ∧ sq ≤ 4294967295) (hac : 0 ≤ ac ∧ ac ≤ 4294967295) (hfl : 0 ≤ fl ∧ fl ≤ 255) (hwi : 0 ≤ wi ∧ wi ≤ 65535) (hur : 0 ≤ ur ∧ ur ≤ 65535) (hms : 0 ≤ ms ∧ ms ≤ 65535) (hsc : -9223372036854775808 ≤ sc ∧ sc ≤ 9223372036854775807) (hd : d.size ≤ 1000000) : Det Try.prog 37 [.a (seg x p y q sq ac fl wi ur ms sc d)] [] (.t [.o (.str (enc16 x p y q sq ac fl wi ur ms sc d)), .o (.int .i64 (enc16e fl ms sc d))]) [] := by
  cases hm : may fl ms sc with
  | false => exact renc_no _ _ _ _ _ _ _ _ _ _ _ _ hm
  | true => exact renc_yes _ _ _ _ _ _ _ _ _ _ _ _ hx hp hy hq hsq hac hfl hwi hur hms hsc hd hm
/-- What nobody answers; and whether. -/
def ans16 (x p y q sq ac fl : Int) (d : ByteArray) : List SV := if flag fl 4 then seg 0 0 0 0 0 0 0 0 0 0 0 ⟨#[]⟩ else if flag fl 16 then seg y q x p ac 0 4 0 0 0 (-1) ⟨#[]⟩ else seg y q x p 0 (IntKind.u32.wrap (sq + len16 fl d)) 20 0 0 0 (-1) ⟨#[]⟩
def ansB (fl : Int) : Bool := !flag fl 4
set_option maxHeartbeats 1000000 in
theorem ans_det (x p y q sq ac fl wi ur ms sc : Int) (d : ByteArray) (hd : d.size ≤ maxLen) : Det Try.prog 40 [.a (seg x p y q sq ac fl wi ur ms sc d)] [] (.t [.a (ans16 x p y q sq ac fl d), .o (.bool (ansB fl))]) [] := by
  refine can_of_W known mix Try.func40 (by kernel_rfl) ok_tcp_Answer (Nat.le_of_ble_eq_true rfl) ?_
  repeat' ((conv => whnf); first
    | ((with_reducible refine Look.mk ?_); refine ⟨_, rfl, ?_⟩)
    | ((with_reducible refine LookN.zeros ?_))
    | ((with_reducible refine LookN.bytes ?_ ?_); (simp; done))
    | ((with_reducible refine BytesW.bytes ?_))
    | ((with_reducible refine Look.byte ?_ ?_); omega)
    | ((with_reducible refine Look.setb ?_ ?_ ?_); exact bv8_bd _; omega)
    | ((with_reducible refine LookN.setb ?_ ?_ ?_); exact bv8_bd _; omega)
    | ((with_reducible refine LookN.mk ?_); refine ⟨_, rfl, ?_⟩)
    | ((with_reducible refine Need.mk ?_ ?_); first | ((with_reducible refine needB ?_); kernel_rfl) | exact rfl | trivial | omega | exact Nat.le_of_ble_eq_true rfl | (exact ⟨rfl, by omega⟩) | (intro h; first | rfl | cases h) | (simp only [lenS_text, lenS_setN, lenS_zeros]; omega) | (simp only [ByteArray.size_append, size_lit, List.size_toArray, List.length_cons, List.length_nil, Sp.ofB_size, Sp.headB_size]; omega))
    | ((with_reducible refine BytesW.mk ?_); refine ⟨_, rfl, ?_⟩)
    | (with_reducible refine CallW.det (has_det ..) ?_)
    | (with_reducible refine CallW.det (has1_det ..) ?_)
    | (with_reducible refine CallW.det (may_det ..) ?_)
    | (with_reducible refine CallW.det (syn_det ..) ?_)
    | (with_reducible refine CallW.det (len_det _ _ _ _ _ _ _ _ _ _ _ _ hd) ?_)
    | (with_reducible refine CallW.det (turn_det ..) ?_)
    | ((with_reducible refine Test.empty (fun h => ?_) (fun h => ?_)))
    | (with_reducible refine Test.tt ?_)
    | (with_reducible refine Test.ff ?_)
    | ((with_reducible refine Test.dt ?_ ?_); omega)
    | ((with_reducible refine Test.df ?_ ?_); omega)
    | (with_reducible refine Test.d (fun h => ?_) (fun h => ?_))
    | ((with_reducible refine Test.b ?_ ?_); (focus first | assumption | (simp [negB]; done) | exact rfl | (simp only [hm]; done) | (rw [hm]; exact rfl)))
    | ((with_reducible refine Test.nb ?_ ?_); (focus first | assumption | (simp [negB]; done) | exact rfl | (simp only [hm]; done) | (rw [hm]; exact rfl)))
    | (with_reducible refine Test.mk (fun h => ?_) (fun h => ?_))
    | (with_reducible refine Arith.bv8 ?_)
    | (with_reducible refine Arith.bv16 ?_)
    | (with_reducible refine Arith.bv32 ?_)
    | (with_reducible refine Arith.bv64 ?_)
    | ((with_reducible refine Arith.i64 ?_ ?_); omega)
    | ((with_reducible refine Arith.u64 ?_ ?_); omega)
    | ((with_reducible refine Arith.u32 ?_ ?_); omega)
    | ((with_reducible refine Arith.u16 ?_ ?_); omega)
    | ((with_reducible refine Arith.u8 ?_ ?_); omega)
    | ((with_reducible refine Arith.i32 ?_ ?_); omega)
    | ((with_reducible refine Arith.i64 ?_ ?_); simp (discharger := omega) only [Int.tdiv_eq_ediv_of_nonneg, shr_u8_4, shl_u8_4, shr_u16_4, shl_u16_4, shr_u16_8, shl_u16_8, shr_u32_4, shl_u32_4, shr_u32_8, shl_u32_8, shr_u32_16, shl_u32_16, shr_u32_24, shl_u32_24, shr_u64_4, shl_u64_4, shr_u64_8, shl_u64_8, shr_u64_16, shl_u64_16, shr_u64_24, shl_u64_24, shr_u64_40, shl_u64_40, shr_i64_4, shl_i64_4, shr_i64_8, shl_i64_8, shr_i64_16, shl_i64_16, shr_i64_24, shl_i64_24, shr_i64_40, shl_i64_40]; omega)
    | ((with_reducible refine Arith.u64 ?_ ?_); simp (discharger := omega) only [Int.tdiv_eq_ediv_of_nonneg, shr_u8_4, shl_u8_4, shr_u16_4, shl_u16_4, shr_u16_8, shl_u16_8, shr_u32_4, shl_u32_4, shr_u32_8, shl_u32_8, shr_u32_16, shl_u32_16, shr_u32_24, shl_u32_24, shr_u64_4, shl_u64_4, shr_u64_8, shl_u64_8, shr_u64_16, shl_u64_16, shr_u64_24, shl_u64_24, shr_u64_40, shl_u64_40, shr_i64_4, shl_i64_4, shr_i64_8, shl_i64_8, shr_i64_16, shl_i64_16, shr_i64_24, shl_i64_24, shr_i64_40, shl_i64_40]; omega)
    | ((with_reducible refine Arith.u32 ?_ ?_); simp (discharger := omega) only [Int.tdiv_eq_ediv_of_nonneg, shr_u8_4, shl_u8_4, shr_u16_4, shl_u16_4, shr_u16_8, shl_u16_8, shr_u32_4, shl_u32_4, shr_u32_8, shl_u32_8, shr_u32_16, shl_u32_16, shr_u32_24, shl_u32_24, shr_u64_4, shl_u64_4, shr_u64_8, shl_u64_8, shr_u64_16, shl_u64_16, shr_u64_24, shl_u64_24, shr_u64_40, shl_u64_40, shr_i64_4, shl_i64_4, shr_i64_8, shl_i64_8, shr_i64_16, shl_i64_16, shr_i64_24, shl_i64_24, shr_i64_40, shl_i64_40]; omega)
    | ((with_reducible refine Arith.u16 ?_ ?_); simp (discharger := omega) only [Int.tdiv_eq_ediv_of_nonneg, shr_u8_4, shl_u8_4, shr_u16_4, shl_u16_4, shr_u16_8, shl_u16_8, shr_u32_4, shl_u32_4, shr_u32_8, shl_u32_8, shr_u32_16, shl_u32_16, shr_u32_24, shl_u32_24, shr_u64_4, shl_u64_4, shr_u64_8, shl_u64_8, shr_u64_16, shl_u64_16, shr_u64_24, shl_u64_24, shr_u64_40, shl_u64_40, shr_i64_4, shl_i64_4, shr_i64_8, shl_i64_8, shr_i64_16, shl_i64_16, shr_i64_24, shl_i64_24, shr_i64_40, shl_i64_40]; omega)
    | ((with_reducible refine Arith.u8 ?_ ?_); simp (discharger := omega) only [Int.tdiv_eq_ediv_of_nonneg, shr_u8_4, shl_u8_4, shr_u16_4, shl_u16_4, shr_u16_8, shl_u16_8, shr_u32_4, shl_u32_4, shr_u32_8, shl_u32_8, shr_u32_16, shl_u32_16, shr_u32_24, shl_u32_24, shr_u64_4, shl_u64_4, shr_u64_8, shl_u64_8, shr_u64_16, shl_u64_16, shr_u64_24, shl_u64_24, shr_u64_40, shl_u64_40, shr_i64_4, shl_i64_4, shr_i64_8, shl_i64_8, shr_i64_16, shl_i64_16, shr_i64_24, shl_i64_24, shr_i64_40, shl_i64_40]; omega)
    | (with_reducible refine Arith.mk ?_)
    | (with_reducible refine Ends.mk ?_))
  all_goals first | (refine ⟨?_, rfl⟩; simp_all [ans16, ansB, flag]; done)
set_option maxHeartbeats 1000000 in
theorem rans_det (x p y q sq ac fl wi ur ms sc : Int) (d : ByteArray) (hd : d.size ≤ maxLen) : Det Try.prog 41 [.a (seg x p y q sq ac fl wi ur ms sc d)] [] (.t [.a (ans16 x p y q sq ac fl d), .o (.bool (ansB fl))]) [] := by
  refine can_of_W known mix Try.func41 (by kernel_rfl) ok_ref16_Answer (Nat.le_of_ble_eq_true rfl) ?_
  repeat' ((conv => whnf); first
    | ((with_reducible refine Look.mk ?_); refine ⟨_, rfl, ?_⟩)
    | ((with_reducible refine LookN.zeros ?_))
    | ((with_reducible refine LookN.bytes ?_ ?_); (simp; done))
    | ((with_reducible refine BytesW.bytes ?_))
    | ((with_reducible refine Look.byte ?_ ?_); omega)
    | ((with_reducible refine Look.setb ?_ ?_ ?_); exact bv8_bd _; omega)
    | ((with_reducible refine LookN.setb ?_ ?_ ?_); exact bv8_bd _; omega)
    | ((with_reducible refine LookN.mk ?_); refine ⟨_, rfl, ?_⟩)
    | ((with_reducible refine Need.mk ?_ ?_); first | ((with_reducible refine needB ?_); kernel_rfl) | exact rfl | trivial | omega | exact Nat.le_of_ble_eq_true rfl | (exact ⟨rfl, by omega⟩) | (intro h; first | rfl | cases h) | (simp only [lenS_text, lenS_setN, lenS_zeros]; omega) | (simp only [ByteArray.size_append, size_lit, List.size_toArray, List.length_cons, List.length_nil, Sp.ofB_size, Sp.headB_size]; omega))
    | ((with_reducible refine BytesW.mk ?_); refine ⟨_, rfl, ?_⟩)
    | (with_reducible refine CallW.det (has_det ..) ?_)
    | (with_reducible refine CallW.det (has1_det ..) ?_)
    | (with_reducible refine CallW.det (may_det ..) ?_)
    | (with_reducible refine CallW.det (syn_det ..) ?_)
    | (with_reducible refine CallW.det (rlen_det _ _ _ _ _ _ _ _ _ _ _ _ hd) ?_)
    | (with_reducible refine CallW.det (rturn_det ..) ?_)
    | ((with_reducible refine Test.empty (fun h => ?_) (fun h => ?_)))
    | (with_reducible refine Test.tt ?_)
    | (with_reducible refine Test.ff ?_)
    | ((with_reducible refine Test.dt ?_ ?_); omega)
    | ((with_reducible refine Test.df ?_ ?_); omega)
    | (with_reducible refine Test.d (fun h => ?_) (fun h => ?_))
    | ((with_reducible refine Test.b ?_ ?_); (focus first | assumption | (simp [negB]; done) | exact rfl | (simp only [hm]; done) | (rw [hm]; exact rfl)))
    | ((with_reducible refine Test.nb ?_ ?_); (focus first | assumption | (simp [negB]; done) | exact rfl | (simp only [hm]; done) | (rw [hm]; exact rfl)))
    | (with_reducible refine Test.mk (fun h => ?_) (fun h => ?_))
    | (with_reducible refine Arith.bv8 ?_)
    | (with_reducible refine Arith.bv16 ?_)
    | (with_reducible refine Arith.bv32 ?_)
    | (with_reducible refine Arith.bv64 ?_)
    | ((with_reducible refine Arith.i64 ?_ ?_); omega)
    | ((with_reducible refine Arith.u64 ?_ ?_); omega)
    | ((with_reducible refine Arith.u32 ?_ ?_); omega)
    | ((with_reducible refine Arith.u16 ?_ ?_); omega)
    | ((with_reducible refine Arith.u8 ?_ ?_); omega)
    | ((with_reducible refine Arith.i32 ?_ ?_); omega)
    | ((with_reducible refine Arith.i64 ?_ ?_); simp (discharger := omega) only [Int.tdiv_eq_ediv_of_nonneg, shr_u8_4, shl_u8_4, shr_u16_4, shl_u16_4, shr_u16_8, shl_u16_8, shr_u32_4, shl_u32_4, shr_u32_8, shl_u32_8, shr_u32_16, shl_u32_16, shr_u32_24, shl_u32_24, shr_u64_4, shl_u64_4, shr_u64_8, shl_u64_8, shr_u64_16, shl_u64_16, shr_u64_24, shl_u64_24, shr_u64_40, shl_u64_40, shr_i64_4, shl_i64_4, shr_i64_8, shl_i64_8, shr_i64_16, shl_i64_16, shr_i64_24, shl_i64_24, shr_i64_40, shl_i64_40]; omega)
    | ((with_reducible refine Arith.u64 ?_ ?_); simp (discharger := omega) only [Int.tdiv_eq_ediv_of_nonneg, shr_u8_4, shl_u8_4, shr_u16_4, shl_u16_4, shr_u16_8, shl_u16_8, shr_u32_4, shl_u32_4, shr_u32_8, shl_u32_8, shr_u32_16, shl_u32_16, shr_u32_24, shl_u32_24, shr_u64_4, shl_u64_4, shr_u64_8, shl_u64_8, shr_u64_16, shl_u64_16, shr_u64_24, shl_u64_24, shr_u64_40, shl_u64_40, shr_i64_4, shl_i64_4, shr_i64_8, shl_i64_8, shr_i64_16, shl_i64_16, shr_i64_24, shl_i64_24, shr_i64_40, shl_i64_40]; omega)
    | ((with_reducible refine Arith.u32 ?_ ?_); simp (discharger := omega) only [Int.tdiv_eq_ediv_of_nonneg, shr_u8_4, shl_u8_4, shr_u16_4, shl_u16_4, shr_u16_8, shl_u16_8, shr_u32_4, shl_u32_4, shr_u32_8, shl_u32_8, shr_u32_16, shl_u32_16, shr_u32_24, shl_u32_24, shr_u64_4, shl_u64_4, shr_u64_8, shl_u64_8, shr_u64_16, shl_u64_16, shr_u64_24, shl_u64_24, shr_u64_40, shl_u64_40, shr_i64_4, shl_i64_4, shr_i64_8, shl_i64_8, shr_i64_16, shl_i64_16, shr_i64_24, shl_i64_24, shr_i64_40, shl_i64_40]; omega)
    | ((with_reducible refine Arith.u16 ?_ ?_); simp (discharger := omega) only [Int.tdiv_eq_ediv_of_nonneg, shr_u8_4, shl_u8_4, shr_u16_4, shl_u16_4, shr_u16_8, shl_u16_8, shr_u32_4, shl_u32_4, shr_u32_8, shl_u32_8, shr_u32_16, shl_u32_16, shr_u32_24, shl_u32_24, shr_u64_4, shl_u64_4, shr_u64_8, shl_u64_8, shr_u64_16, shl_u64_16, shr_u64_24, shl_u64_24, shr_u64_40, shl_u64_40, shr_i64_4, shl_i64_4, shr_i64_8, shl_i64_8, shr_i64_16, shl_i64_16, shr_i64_24, shl_i64_24, shr_i64_40, shl_i64_40]; omega)
    | ((with_reducible refine Arith.u8 ?_ ?_); simp (discharger := omega) only [Int.tdiv_eq_ediv_of_nonneg, shr_u8_4, shl_u8_4, shr_u16_4, shl_u16_4, shr_u16_8, shl_u16_8, shr_u32_4, shl_u32_4, shr_u32_8, shl_u32_8, shr_u32_16, shl_u32_16, shr_u32_24, shl_u32_24, shr_u64_4, shl_u64_4, shr_u64_8, shl_u64_8, shr_u64_16, shl_u64_16, shr_u64_24, shl_u64_24, shr_u64_40, shl_u64_40, shr_i64_4, shl_i64_4, shr_i64_8, shl_i64_8, shr_i64_16, shl_i64_16, shr_i64_24, shl_i64_24, shr_i64_40, shl_i64_40]; omega)
    | (with_reducible refine Arith.mk ?_)
    | (with_reducible refine Ends.mk ?_))
  all_goals first | (refine ⟨?_, rfl⟩; simp_all [ans16, ansB, flag]; done)
end L16
end Go.Proofs.Ytlpeefemffmpmaa.VM
