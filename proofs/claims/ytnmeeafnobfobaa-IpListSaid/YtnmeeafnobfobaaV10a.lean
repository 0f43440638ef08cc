/- law 10 by the evaluator: heads are written and read. -/
import Derived.Test.YtnmeeafnobfobaaVG2n
namespace Go.Proofs.Ytnmeeafnobfobaa.VM
namespace G2
open Go.RowKit
set_option linter.unusedVariables false
set_option linter.unusedSimpArgs false
set_option maxRecDepth 100000
def vf_ip4_May : VFn := ⟨(.seq (.reg [
    ⟨(some 1), .box (.t 0), none, 0⟩,
    ⟨(some 2), .mv (.c (.p (.o (.bool false)))), none, 1⟩] 1 none) (.seq (.reg [
    ⟨(some 3), .fad 4 (.t 1), none, 0⟩,
    ⟨(some 4), .ld none (.t 3), none, 0⟩,
    ⟨(some 5), .bin .geq (.t 4) (.c (.p (.o (.int .i64 0)))), none, 0⟩,
    ⟨(some 6), .mv (.t 5), none, 0⟩,
    ⟨(some 7), .fad 4 (.t 1), (some (6, true)), 0⟩,
    ⟨(some 8), .ld none (.t 7), (some (6, true)), 0⟩,
    ⟨(some 9), .bin .leq (.t 8) (.c (.p (.o (.int .i64 65528)))), (some (6, true)), 0⟩,
    ⟨(some 10), .pick (.t 6) (.t 9) (.c (.p (.o (.bool false)))), none, 0⟩,
    ⟨(some 11), .mv (.t 10), none, 0⟩,
    ⟨(some 12), .fad 4 (.t 1), (some (11, true)), 0⟩,
    ⟨(some 13), .ld none (.t 12), (some (11, true)), 0⟩,
    ⟨(some 14), .bin .rem (.t 13) (.c (.p (.o (.int .i64 8)))), (some (11, true)), 0⟩,
    ⟨(some 15), .bin .eql (.t 14) (.c (.p (.o (.int .i64 0)))), (some (11, true)), 0⟩,
    ⟨(some 16), .pick (.t 11) (.t 15) (.c (.p (.o (.bool false)))), none, 0⟩,
    ⟨(some 17), .mv (.t 16), none, 0⟩,
    ⟨(some 18), .fad 9 (.t 1), (some (17, true)), 0⟩,
    ⟨(some 19), .ld none (.t 18), (some (17, true)), 0⟩,
    ⟨(some 20), .len false (.t 19), (some (17, true)), 0⟩,
    ⟨(some 21), .bin .leq (.t 20) (.c (.p (.o (.int .i64 40)))), (some (17, true)), 0⟩,
    ⟨(some 22), .pick (.t 17) (.t 21) (.c (.p (.o (.bool false)))), none, 0⟩,
    ⟨(some 23), .mv (.t 22), none, 0⟩,
    ⟨(some 24), .fad 9 (.t 1), (some (23, true)), 0⟩,
    ⟨(some 25), .ld none (.t 24), (some (23, true)), 0⟩,
    ⟨(some 26), .len false (.t 25), (some (23, true)), 0⟩,
    ⟨(some 27), .bin .rem (.t 26) (.c (.p (.o (.int .i64 4)))), (some (23, true)), 0⟩,
    ⟨(some 28), .bin .eql (.t 27) (.c (.p (.o (.int .i64 0)))), (some (23, true)), 0⟩,
    ⟨(some 29), .pick (.t 23) (.t 28) (.c (.p (.o (.bool false)))), none, 0⟩,
    ⟨(some 2), .mv (.t 29), none, 0⟩] 0 none) .ret)),
  [.tmp 2], 30, [0, 1, 2]⟩
theorem ok_ip4_May : cFn Try.prog eqsT newsT vf_ip4_May.keep Try.f31 = some vf_ip4_May := by kernel_rfl
def vf_ip4_whole : VFn := ⟨(.seq (.reg [
    ⟨(some 2), .box (.t 0), none, 0⟩,
    ⟨(some 4), .mv (.c (.p (.o (.bool false)))), none, 1⟩] 1 none) (.seq (.reg [
    ⟨(some 5), .fad 3 (.t 2), none, 0⟩,
    ⟨(some 6), .ld none (.t 5), none, 0⟩,
    ⟨(some 7), .un .not (.t 6), none, 0⟩,
    ⟨(some 8), .mv (.t 7), none, 0⟩,
    ⟨(some 9), .mv (.t 1), (some (8, false)), 0⟩,
    ⟨(some 10), .bin .gtr (.t 9) (.c (.p (.o (.int .i64 0)))), (some (8, false)), 0⟩,
    ⟨(some 11), .mv (.t 10), (some (8, false)), 0⟩,
    ⟨(some 12), .mv (.t 1), (some (11, true)), 0⟩,
    ⟨(some 13), .bin .rem (.t 12) (.c (.p (.o (.int .i64 8)))), (some (11, true)), 0⟩,
    ⟨(some 14), .bin .eql (.t 13) (.c (.p (.o (.int .i64 0)))), (some (11, true)), 0⟩,
    ⟨(some 15), .pick (.t 11) (.t 14) (.c (.p (.o (.bool false)))), (some (8, false)), 0⟩,
    ⟨(some 16), .pick (.t 8) (.c (.p (.o (.bool true)))) (.t 15), none, 0⟩,
    ⟨(some 4), .mv (.t 16), none, 0⟩] 0 none) .ret)),
  [.tmp 4], 17, [0, 1, 2, 4]⟩
theorem ok_ip4_whole : cFn Try.prog eqsT newsT vf_ip4_whole.keep Try.f61 = some vf_ip4_whole := by kernel_rfl
def vf_ip4_fits : VFn := ⟨(.seq (.reg [
    ⟨(some 2), .box (.t 0), none, 0⟩,
    ⟨(some 4), .mv (.c (.p (.o (.bool false)))), none, 1⟩] 1 none) (.seq (.reg [
    ⟨(some 5), .fad 4 (.t 2), none, 0⟩,
    ⟨(some 6), .ld none (.t 5), none, 0⟩,
    ⟨(some 7), .mv (.t 1), none, 0⟩,
    ⟨(some 8), .bin .add (.t 6) (.t 7), none, 0⟩,
    ⟨(some 9), .fad 9 (.t 2), none, 0⟩,
    ⟨(some 10), .ld none (.t 9), none, 0⟩,
    ⟨(some 11), .len false (.t 10), none, 0⟩,
    ⟨(some 12), .bin .sub (.c (.p (.o (.int .i64 65515)))) (.t 11), none, 0⟩,
    ⟨(some 13), .bin .leq (.t 8) (.t 12), none, 0⟩,
    ⟨(some 4), .mv (.t 13), none, 0⟩] 0 none) .ret)),
  [.tmp 4], 14, [0, 1, 2, 4]⟩
theorem ok_ip4_fits : cFn Try.prog eqsT newsT vf_ip4_fits.keep Try.f62 = some vf_ip4_fits := by kernel_rfl
def vf_ip4_Encode : VFn := ⟨(.seq (.reg [
    ⟨(some 2), .box (.t 0), none, 0⟩,
    ⟨(some 4), .mv (.c (.p (.o (.str ⟨#[]⟩)))), none, 1⟩,
    ⟨(some 5), .mv (.c (.p (.o (.int .i64 0)))), none, 1⟩] 1 none) (.seq (.block 0 (.seq (.reg [
    ⟨(some 11), .ld (some 10) (.t 2), none, 0⟩,
    ⟨(some 12), .call 31 [(.t 11)] 0, none, 0⟩,
    ⟨(some 13), .un .not (.t 12), none, 0⟩,
    ⟨(some 14), .mv (.t 13), none, 0⟩,
    ⟨(some 15), .ld (some 10) (.t 2), (some (14, false)), 0⟩,
    ⟨(some 16), .mv (.t 1), (some (14, false)), 0⟩,
    ⟨(some 17), .len false (.t 16), (some (14, false)), 0⟩,
    ⟨(some 18), .call 61 [(.t 15), (.t 17)] 0, (some (14, false)), 0⟩,
    ⟨(some 19), .un .not (.t 18), (some (14, false)), 0⟩,
    ⟨(some 20), .pick (.t 14) (.c (.p (.o (.bool true)))) (.t 19), none, 0⟩,
    ⟨(some 10), .mv (.t 20), none, 0⟩] 0 none) (.cond (.t 10) (.seq (.reg [
    ⟨(some 4), .mv (.c (.p (.o (.str ⟨#[]⟩)))), none, 0⟩,
    ⟨(some 5), .mv (.c (.p (.o (.int .i64 2)))), none, 0⟩] 0 none) .ret) (.seq (.reg [
    ⟨(some 22), .ld (some 10) (.t 2), none, 0⟩,
    ⟨(some 23), .mv (.t 1), none, 0⟩,
    ⟨(some 24), .len false (.t 23), none, 0⟩,
    ⟨(some 25), .call 62 [(.t 22), (.t 24)] 0, none, 0⟩,
    ⟨(some 26), .un .not (.t 25), none, 0⟩,
    ⟨(some 21), .mv (.t 26), none, 0⟩] 0 none) (.cond (.t 21) (.seq (.reg [
    ⟨(some 4), .mv (.c (.p (.o (.str ⟨#[]⟩)))), none, 0⟩,
    ⟨(some 5), .mv (.c (.p (.o (.int .i64 4)))), none, 0⟩] 0 none) .ret) .skip))))) (.seq (.reg [
    ⟨(some 27), .fad 4 (.t 2), none, 0⟩,
    ⟨(some 28), .ld none (.t 27), none, 0⟩,
    ⟨(some 29), .bin .quo (.t 28) (.c (.p (.o (.int .i64 8)))), none, 0⟩,
    ⟨(some 6), .mv (.t 29), none, 0⟩] 0 none) (.seq (.seq (.reg [
    ⟨(some 30), .fad 2 (.t 2), none, 0⟩,
    ⟨(some 31), .ld none (.t 30), none, 0⟩] 0 none) (.cond (.t 31) (.reg [
    ⟨(some 32), .mv (.t 6), none, 0⟩,
    ⟨(some 33), .bin .or (.t 32) (.c (.p (.o (.int .i64 16384)))), none, 0⟩,
    ⟨(some 6), .mv (.t 33), none, 0⟩] 0 none) .skip)) (.seq (.seq (.reg [
    ⟨(some 34), .fad 3 (.t 2), none, 0⟩,
    ⟨(some 35), .ld none (.t 34), none, 0⟩] 0 none) (.cond (.t 35) (.reg [
    ⟨(some 36), .mv (.t 6), none, 0⟩,
    ⟨(some 37), .bin .or (.t 36) (.c (.p (.o (.int .i64 8192)))), none, 0⟩,
    ⟨(some 6), .mv (.t 37), none, 0⟩] 0 none) .skip)) (.seq (.reg [
    ⟨(some 38), .fad 9 (.t 2), none, 0⟩,
    ⟨(some 39), .ld none (.t 38), none, 0⟩,
    ⟨(some 40), .len false (.t 39), none, 0⟩,
    ⟨(some 41), .bin .add (.c (.p (.o (.int .i64 20)))) (.t 40), none, 0⟩,
    ⟨(some 7), .mv (.t 41), none, 0⟩] 0 none) (.seq (.reg [
    ⟨(some 42), .mv (.t 7), none, 0⟩,
    ⟨(some 43), .bin .quo (.t 42) (.c (.p (.o (.int .i64 4)))), none, 0⟩,
    ⟨(some 44), .bin .or (.c (.p (.o (.int .i64 64)))) (.t 43), none, 0⟩,
    ⟨(some 45), .cvi .u8 (.t 44), none, 0⟩,
    ⟨(some 46), .fad 0 (.t 2), none, 0⟩,
    ⟨(some 47), .ld none (.t 46), none, 0⟩,
    ⟨(some 48), .bsl 2 [.int .u8 0, .int .u8 0] [(0, 1, (.t 45)), (1, 1, (.t 47))], none, 0⟩,
    ⟨(some 49), .b2s (.t 48), none, 1⟩,
    ⟨(some 50), .mv (.t 7), none, 1⟩,
    ⟨(some 51), .mv (.t 1), none, 1⟩,
    ⟨(some 52), .len false (.t 51), none, 1⟩,
    ⟨(some 53), .bin .add (.t 50) (.t 52), none, 1⟩,
    ⟨(some 54), .cvi .u64 (.t 53), none, 1⟩,
    ⟨(some 55), .call 44 [(.t 54), (.c (.p (.o (.int .i64 2))))] 0, none, 1⟩,
    ⟨(some 56), .bin .add (.t 49) (.t 55), none, 1⟩,
    ⟨(some 57), .fad 1 (.t 2), none, 1⟩,
    ⟨(some 58), .ld none (.t 57), none, 1⟩,
    ⟨(some 59), .cvi .u64 (.t 58), none, 1⟩,
    ⟨(some 60), .call 44 [(.t 59), (.c (.p (.o (.int .i64 2))))] 0, none, 1⟩,
    ⟨(some 61), .bin .add (.t 56) (.t 60), none, 1⟩,
    ⟨(some 62), .mv (.t 6), none, 1⟩,
    ⟨(some 63), .cvi .u64 (.t 62), none, 1⟩,
    ⟨(some 64), .call 44 [(.t 63), (.c (.p (.o (.int .i64 2))))] 0, none, 1⟩,
    ⟨(some 65), .bin .add (.t 61) (.t 64), none, 1⟩,
    ⟨(some 66), .fad 5 (.t 2), none, 1⟩,
    ⟨(some 67), .ld none (.t 66), none, 1⟩,
    ⟨(some 68), .fad 6 (.t 2), none, 1⟩,
    ⟨(some 69), .ld none (.t 68), none, 1⟩,
    ⟨(some 70), .bsl 2 [.int .u8 0, .int .u8 0] [(0, 1, (.t 67)), (1, 1, (.t 69))], none, 1⟩,
    ⟨(some 71), .b2s (.t 70), none, 2⟩,
    ⟨(some 72), .bin .add (.t 65) (.t 71), none, 2⟩,
    ⟨(some 8), .mv (.t 72), none, 2⟩] 2 (some [(0, 4), (1, 4), (2, 4), (3, 4), (0, 5), (1, 5), (2, 5), (3, 5), (0, 8), (1, 8), (2, 8), (3, 8), (4, 8), (5, 8), (6, 8), (7, 8), (0, 9), (1, 9), (2, 9), (3, 9), (4, 9), (5, 9), (6, 9), (7, 9), (8, 9), (0, 10), (1, 10), (2, 10), (3, 10), (4, 10), (5, 10), (6, 10), (7, 10), (8, 10), (0, 11), (1, 11), (2, 11), (3, 11), (4, 11), (5, 11), (6, 11), (7, 11), (0, 12), (1, 12), (2, 12), (3, 12), (4, 12), (5, 12), (6, 12), (7, 12), (0, 13), (1, 13), (2, 13), (3, 13), (4, 13), (5, 13), (6, 13), (7, 13), (0, 15), (1, 15), (2, 15), (3, 15), (4, 15), (5, 15), (6, 15), (7, 15), (8, 15), (9, 15), (10, 15), (11, 15), (12, 15), (13, 15), (14, 15), (0, 16), (1, 16), (2, 16), (3, 16), (4, 16), (5, 16), (6, 16), (7, 16), (8, 16), (9, 16), (10, 16), (11, 16), (12, 16), (13, 16), (14, 16), (0, 17), (1, 17), (2, 17), (3, 17), (4, 17), (5, 17), (6, 17), (7, 17), (8, 17), (9, 17), (10, 17), (11, 17), (12, 17), (13, 17), (14, 17), (0, 18), (1, 18), (2, 18), (3, 18), (4, 18), (5, 18), (6, 18), (7, 18), (14, 18), (0, 20), (1, 20), (2, 20), (3, 20), (4, 20), (5, 20), (6, 20), (7, 20), (8, 20), (9, 20), (10, 20), (11, 20), (12, 20), (13, 20), (14, 20), (15, 20), (16, 20), (17, 20), (18, 20), (19, 20), (0, 21), (1, 21), (2, 21), (3, 21), (4, 21), (5, 21), (6, 21), (7, 21), (8, 21), (9, 21), (10, 21), (11, 21), (12, 21), (13, 21), (14, 21), (15, 21), (16, 21), (17, 21), (18, 21), (19, 21), (0, 22), (1, 22), (2, 22), (3, 22), (4, 22), (5, 22), (6, 22), (7, 22), (14, 22), (19, 22), (0, 24), (1, 24), (2, 24), (3, 24), (4, 24), (5, 24), (6, 24), (7, 24), (8, 24), (9, 24), (10, 24), (11, 24), (12, 24), (13, 24), (14, 24), (15, 24), (16, 24), (17, 24), (18, 24), (19, 24), (20, 24), (21, 24), (22, 24), (23, 24), (0, 25), (1, 25), (2, 25), (3, 25), (4, 25), (5, 25), (6, 25), (7, 25), (8, 25), (9, 25), (10, 25), (11, 25), (12, 25), (13, 25), (14, 25), (15, 25), (16, 25), (17, 25), (18, 25), (19, 25), (20, 25), (21, 25), (22, 25), (23, 25), (0, 26), (1, 26), (2, 26), (3, 26), (4, 26), (5, 26), (6, 26), (7, 26), (8, 26), (9, 26), (10, 26), (11, 26), (12, 26), (13, 26), (14, 26), (15, 26), (16, 26), (17, 26), (18, 26), (19, 26), (20, 26), (21, 26), (22, 26), (23, 26), (24, 26), (25, 26), (0, 27), (1, 27), (2, 27), (3, 27), (4, 27), (5, 27), (6, 27), (7, 27), (8, 27), (9, 27), (10, 27), (11, 27), (12, 27), (13, 27), (14, 27), (15, 27), (16, 27), (17, 27), (18, 27), (19, 27), (20, 27), (21, 27), (22, 27), (23, 27), (24, 27), (25, 27), (0, 28), (1, 28), (2, 28), (3, 28), (4, 28), (5, 28), (6, 28), (7, 28), (8, 28), (9, 28), (10, 28), (11, 28), (12, 28), (13, 28), (14, 28), (15, 28), (16, 28), (17, 28), (18, 28), (19, 28), (20, 28), (21, 28), (22, 28), (23, 28), (0, 29), (1, 29), (2, 29), (3, 29), (4, 29), (5, 29), (6, 29), (7, 29), (8, 29), (9, 29), (10, 29), (11, 29), (12, 29), (13, 29), (14, 29), (15, 29), (16, 29), (17, 29), (18, 29), (19, 29), (20, 29), (21, 29), (22, 29), (23, 29)])) (.seq (.reg [
    ⟨(some 73), .fad 7 (.t 2), none, 0⟩,
    ⟨(some 74), .ld none (.t 73), none, 0⟩,
    ⟨(some 75), .cvi .u64 (.t 74), none, 0⟩,
    ⟨(some 76), .call 44 [(.t 75), (.c (.p (.o (.int .i64 4))))] 0, none, 0⟩,
    ⟨(some 77), .fad 8 (.t 2), none, 0⟩,
    ⟨(some 78), .ld none (.t 77), none, 0⟩,
    ⟨(some 79), .cvi .u64 (.t 78), none, 0⟩,
    ⟨(some 80), .call 44 [(.t 79), (.c (.p (.o (.int .i64 4))))] 0, none, 0⟩,
    ⟨(some 81), .bin .add (.t 76) (.t 80), none, 0⟩,
    ⟨(some 82), .fad 9 (.t 2), none, 0⟩,
    ⟨(some 83), .ld none (.t 82), none, 0⟩,
    ⟨(some 84), .bin .add (.t 81) (.t 83), none, 0⟩,
    ⟨(some 9), .mv (.t 84), none, 0⟩] 0 (some [(0, 4), (1, 4), (2, 4), (3, 4), (0, 5), (1, 5), (2, 5), (3, 5), (0, 6), (1, 6), (2, 6), (3, 6), (0, 9), (1, 9), (2, 9), (3, 9), (4, 9), (5, 9), (6, 9), (7, 9), (8, 9), (0, 10), (1, 10), (2, 10), (3, 10), (4, 10), (5, 10), (6, 10), (7, 10), (8, 10)])) (.seq (.reg [
    ⟨(some 85), .mv (.t 8), none, 0⟩,
    ⟨(some 86), .mv (.t 8), none, 0⟩,
    ⟨(some 87), .mv (.t 9), none, 0⟩,
    ⟨(some 88), .bsl 2 [.str ⟨#[]⟩, .str ⟨#[]⟩] [(0, 1, (.t 86)), (1, 1, (.t 87))], none, 0⟩,
    ⟨(some 89), .call 45 [(.t 88)] 0, none, 1⟩,
    ⟨(some 90), .cvi .u64 (.t 89), none, 1⟩,
    ⟨(some 91), .call 44 [(.t 90), (.c (.p (.o (.int .i64 2))))] 0, none, 1⟩,
    ⟨(some 92), .bin .add (.t 85) (.t 91), none, 1⟩,
    ⟨(some 93), .mv (.t 9), none, 1⟩,
    ⟨(some 94), .bin .add (.t 92) (.t 93), none, 1⟩,
    ⟨(some 95), .mv (.t 1), none, 1⟩,
    ⟨(some 96), .bin .add (.t 94) (.t 95), none, 1⟩,
    ⟨(some 4), .mv (.t 96), none, 1⟩,
    ⟨(some 5), .mv (.c (.p (.o (.int .i64 0)))), none, 1⟩] 1 none) .ret))))))))),
  [.tmp 4, .tmp 5], 97, [0, 1, 2, 4, 5, 6, 7, 8, 9]⟩
theorem ok_ip4_Encode : cFn Try.prog eqsT newsT vf_ip4_Encode.keep Try.f26 = some vf_ip4_Encode := by kernel_rfl
def vf_ip4_two : VFn := ⟨(.seq (.reg [
    ⟨(some 4), .mv (.c (.p (.o (.int .i64 0)))), none, 0⟩] 0 none) (.seq (.reg [
    ⟨(some 8), .mv (.t 0), none, 0⟩,
    ⟨(some 9), .mv (.t 1), none, 0⟩,
    ⟨(some 10), .call 60 [(.t 8), (.t 9)] 0, none, 0⟩,
    ⟨(some 7), .mv (.t 10), none, 0⟩,
    ⟨(some 11), .ext 0 (.t 7), none, 0⟩,
    ⟨(some 12), .ext 1 (.t 7), none, 0⟩,
    ⟨(some 5), .mv (.t 11), none, 0⟩,
    ⟨(some 6), .mv (.t 12), none, 0⟩] 0 none) (.seq (.reg [
    ⟨(some 13), .mv (.t 5), none, 0⟩,
    ⟨(some 14), .cvi .i64 (.t 13), none, 0⟩,
    ⟨(some 4), .mv (.t 14), none, 0⟩] 0 none) .ret))),
  [.tmp 4], 15, [0, 1, 4, 5]⟩
theorem ok_ip4_two : cFn Try.prog eqsT newsT vf_ip4_two.keep Try.f66 = some vf_ip4_two := by kernel_rfl
def vf_ip4_when : VFn := ⟨(.seq (.reg [
    ⟨(some 2), .box (.t 0), none, 0⟩,
    ⟨(some 3), .box (.t 1), none, 1⟩,
    ⟨(some 4), .mv (.c (.p (.o (.nilfn)))), none, 2⟩] 2 none) (.seq (.reg [
    ⟨(some 5), .mkf 89 [(.t 2), (.t 3)], none, 0⟩,
    ⟨(some 4), .mv (.t 5), none, 0⟩] 0 none) .ret)),
  [.tmp 4], 6, [0, 1, 2, 3, 4]⟩
theorem ok_ip4_when : cFn Try.prog eqsT newsT vf_ip4_when.keep Try.f67 = some vf_ip4_when := by kernel_rfl
def vf_ip4_when_1 : VFn := ⟨(.seq (.reg [
    ⟨(some 2), .mv (.c (.p (.o (.int .i64 0)))), none, 0⟩] 0 none) (.seq (.seq (.reg [
    ⟨(some 3), .ld none (.t 0), none, 0⟩] 0 none) (.cond (.t 3) (.seq (.reg [
    ⟨(some 4), .ld none (.t 1), none, 0⟩,
    ⟨(some 2), .mv (.t 4), none, 0⟩] 0 none) .ret) .skip)) (.seq (.reg [
    ⟨(some 2), .mv (.c (.p (.o (.int .i64 0)))), none, 0⟩] 0 none) .ret))),
  [.tmp 2], 5, [0, 1, 2]⟩
theorem ok_ip4_when_1 : cFn Try.prog eqsT newsT vf_ip4_when_1.keep Try.f89 = some vf_ip4_when_1 := by kernel_rfl
def vf_ip4_Decode_1 : VFn := ⟨(.seq (.reg [
    ⟨(some 2), .mv (.c (.p (.o (.int .i64 0)))), none, 0⟩] 0 none) (.seq (.reg [
    ⟨(some 3), .ld none (.t 0), none, 0⟩,
    ⟨(some 4), .ld none (.t 1), none, 0⟩,
    ⟨(some 5), .sls (.t 3) none (some (.t 4)), none, 0⟩,
    ⟨(some 6), .bsl 1 [.str ⟨#[]⟩] [(0, 1, (.t 5))], none, 0⟩,
    ⟨(some 7), .call 48 [(.t 6)] 0, none, 1⟩,
    ⟨(some 8), .un .not (.t 7), none, 1⟩,
    ⟨(some 9), .call 67 [(.t 8), (.c (.p (.o (.int .i64 101))))] 2, none, 1⟩,
    ⟨(some 10), .callv (.t 9) [] 0, none, 3⟩,
    ⟨(some 2), .mv (.t 10), none, 3⟩] 3 none) .ret)),
  [.tmp 2], 11, [0, 1, 2]⟩
theorem ok_ip4_Decode_1 : cFn Try.prog eqsT newsT vf_ip4_Decode_1.keep Try.f68 = some vf_ip4_Decode_1 := by kernel_rfl
def vf_ip4_Decode : VFn := ⟨(.seq (.reg [
    ⟨(some 1), .box (.t 0), none, 0⟩,
    ⟨(some 2), .new [.int .u8 0, .int .u16 0, .bool false, .bool false, .int .i64 0, .int .u8 0, .int .u8 0, .int .u32 0, .int .u32 0, .str ⟨#[]⟩], none, 1⟩,
    ⟨(some 3), .mv (.c (.p (.o (.str ⟨#[]⟩)))), none, 2⟩,
    ⟨(some 4), .mv (.c (.p (.o (.int .i64 0)))), none, 2⟩] 2 none) (.seq (.seq (.reg [
    ⟨(some 11), .ld none (.t 1), none, 0⟩,
    ⟨(some 12), .len false (.t 11), none, 0⟩,
    ⟨(some 13), .bin .lss (.t 12) (.c (.p (.o (.int .i64 20)))), none, 0⟩] 0 none) (.cond (.t 13) (.seq (.reg [
    ⟨(some 14), .ld (some 10) (.t 2), none, 0⟩,
    ⟨none, .st 10 (.t 2) (.t 14), none, 0⟩,
    ⟨(some 3), .mv (.c (.p (.o (.str ⟨#[]⟩)))), none, 0⟩,
    ⟨(some 4), .mv (.c (.p (.o (.int .i64 10)))), none, 0⟩] 0 none) .ret) .skip)) (.seq (.reg [
    ⟨(some 15), .ld none (.t 1), none, 0⟩,
    ⟨(some 16), .ixs (.t 15) (.c (.p (.o (.int .i64 0)))), none, 0⟩,
    ⟨(some 17), .bin .and (.t 16) (.c (.p (.o (.int .u8 15)))), none, 0⟩,
    ⟨(some 18), .cvi .i64 (.t 17), none, 0⟩,
    ⟨(some 19), .bin .mul (.c (.p (.o (.int .i64 4)))) (.t 18), none, 0⟩,
    ⟨(some 20), .ld none (.t 1), none, 0⟩,
    ⟨(some 21), .call 66 [(.t 20), (.c (.p (.o (.int .i64 2))))] 0, none, 0⟩,
    ⟨(some 5), .new [.int .i64 0], none, 0⟩,
    ⟨none, .st 1 (.t 5) (.t 19), none, 1⟩,
    ⟨(some 6), .mv (.t 21), none, 1⟩] 1 (some [(0, 5), (1, 5), (2, 5), (3, 5), (4, 5), (0, 6), (1, 6), (2, 6), (3, 6), (4, 6), (0, 7), (1, 7), (2, 7), (3, 7), (4, 7), (5, 7), (6, 7)])) (.seq (.seq (.reg [
    ⟨(some 22), .ld none (.t 1), none, 0⟩,
    ⟨(some 23), .ixs (.t 22) (.c (.p (.o (.int .i64 0)))), none, 0⟩,
    ⟨(some 24), .bin .shr (.t 23) (.c (.p (.o (.int .u64 4)))), none, 0⟩,
    ⟨(some 25), .bin .neq (.t 24) (.c (.p (.o (.int .u8 4)))), none, 0⟩,
    ⟨(some 26), .call 67 [(.t 25), (.c (.p (.o (.int .i64 100))))] 2, none, 0⟩,
    ⟨(some 27), .ld none (.t 5), none, 2⟩,
    ⟨(some 28), .bin .lss (.t 27) (.c (.p (.o (.int .i64 20)))), none, 2⟩,
    ⟨(some 29), .call 67 [(.t 28), (.c (.p (.o (.int .i64 8))))] 2, none, 2⟩,
    ⟨(some 30), .ld none (.t 1), none, 4⟩,
    ⟨(some 31), .len false (.t 30), none, 4⟩,
    ⟨(some 32), .ld none (.t 5), none, 4⟩,
    ⟨(some 33), .bin .lss (.t 31) (.t 32), none, 4⟩,
    ⟨(some 34), .call 67 [(.t 33), (.c (.p (.o (.int .i64 10))))] 2, none, 4⟩,
    ⟨(some 35), .mv (.t 6), none, 6⟩,
    ⟨(some 36), .ld none (.t 5), none, 6⟩,
    ⟨(some 37), .bin .lss (.t 35) (.t 36), none, 6⟩,
    ⟨(some 38), .call 67 [(.t 37), (.c (.p (.o (.int .i64 8))))] 2, none, 6⟩,
    ⟨(some 39), .ld none (.t 1), none, 8⟩,
    ⟨(some 40), .len false (.t 39), none, 8⟩,
    ⟨(some 41), .mv (.t 6), none, 8⟩,
    ⟨(some 42), .bin .lss (.t 40) (.t 41), none, 8⟩,
    ⟨(some 43), .call 67 [(.t 42), (.c (.p (.o (.int .i64 10))))] 2, none, 8⟩,
    ⟨(some 44), .mkf 68 [(.t 1), (.t 5)], none, 10⟩,
    ⟨(some 45), .bsl 6 [.nilfn, .nilfn, .nilfn, .nilfn, .nilfn, .nilfn] [(0, 1, (.t 26)), (1, 1, (.t 29)), (2, 1, (.t 34)), (3, 1, (.t 38)), (4, 1, (.t 43)), (5, 1, (.t 44))], none, 10⟩,
    ⟨(some 46), .len true (.t 45), none, 11⟩,
    ⟨(some 47), .mv (.c (.p (.o (.int .i64 0)))), none, 11⟩] 11 (some [(0, 5), (1, 5), (2, 5), (3, 5), (4, 5), (0, 6), (1, 6), (2, 6), (3, 6), (4, 6), (0, 8), (1, 8), (2, 8), (3, 8), (4, 8), (5, 8), (6, 8), (7, 8), (0, 9), (1, 9), (2, 9), (3, 9), (4, 9), (5, 9), (6, 9), (7, 9), (0, 10), (1, 10), (2, 10), (3, 10), (4, 10), (5, 10), (6, 10), (7, 10), (8, 10), (9, 10), (0, 11), (1, 11), (2, 11), (3, 11), (4, 11), (5, 11), (6, 11), (7, 11), (0, 13), (1, 13), (2, 13), (3, 13), (4, 13), (5, 13), (6, 13), (7, 13), (8, 13), (9, 13), (10, 13), (11, 13), (12, 13), (0, 14), (1, 14), (2, 14), (3, 14), (4, 14), (5, 14), (6, 14), (7, 14), (8, 14), (9, 14), (10, 14), (11, 14), (12, 14), (13, 14), (0, 15), (1, 15), (2, 15), (3, 15), (4, 15), (5, 15), (6, 15), (7, 15), (8, 15), (9, 15), (10, 15), (11, 15), (12, 15), (0, 17), (1, 17), (2, 17), (3, 17), (4, 17), (5, 17), (6, 17), (7, 17), (8, 17), (9, 17), (10, 17), (11, 17), (12, 17), (13, 17), (14, 17), (15, 17), (16, 17), (0, 18), (1, 18), (2, 18), (3, 18), (4, 18), (5, 18), (6, 18), (7, 18), (8, 18), (9, 18), (10, 18), (11, 18), (12, 18), (13, 18), (14, 18), (15, 18), (16, 18), (0, 19), (1, 19), (2, 19), (3, 19), (4, 19), (5, 19), (6, 19), (7, 19), (8, 19), (9, 19), (10, 19), (11, 19), (12, 19), (13, 19), (14, 19), (15, 19), (16, 19), (17, 19), (18, 19), (0, 20), (1, 20), (2, 20), (3, 20), (4, 20), (5, 20), (6, 20), (7, 20), (8, 20), (9, 20), (10, 20), (11, 20), (12, 20), (13, 20), (14, 20), (15, 20), (16, 20), (0, 22), (1, 22), (2, 22), (3, 22), (4, 22), (5, 22), (6, 22), (7, 22), (8, 22), (9, 22), (10, 22), (11, 22), (12, 22), (13, 22), (14, 22), (15, 22), (16, 22), (17, 22), (18, 22), (19, 22), (20, 22), (21, 22), (0, 25), (1, 25), (2, 25), (3, 25), (4, 25), (5, 25), (6, 25), (7, 25), (8, 25), (9, 25), (10, 25), (11, 25), (12, 25), (13, 25), (14, 25), (15, 25), (16, 25), (17, 25), (18, 25), (19, 25), (20, 25), (21, 25), (22, 25), (23, 25), (24, 25)])) (.block 0 (.loop (.seq (.reg [
    ⟨(some 48), .bin .lss (.t 47) (.t 46), none, 0⟩] 0 none) (.seq (.cond (.t 48) .skip (.exit 0)) (.seq (.block 1 (.seq (.reg [
    ⟨(some 49), .iad 1 (.t 45) (.t 47), none, 0⟩,
    ⟨(some 50), .ld none (.t 49), none, 0⟩,
    ⟨(some 8), .mv (.t 50), none, 0⟩] 0 none) (.seq (.reg [
    ⟨(some 51), .mv (.t 8), none, 0⟩,
    ⟨(some 52), .callv (.t 51) [] 0, none, 0⟩,
    ⟨(some 9), .mv (.t 52), none, 0⟩] 0 none) (.seq (.reg [
    ⟨(some 53), .mv (.t 9), none, 0⟩,
    ⟨(some 54), .bin .neq (.t 53) (.c (.p (.o (.int .i64 0)))), none, 0⟩] 0 none) (.cond (.t 54) (.seq (.reg [
    ⟨(some 55), .bld [.int .u8 0, .int .u16 0, .bool false, .bool false, .int .i64 0, .int .u8 0, .int .u8 0, .int .u32 0, .int .u32 0, .str ⟨#[]⟩] [], none, 0⟩,
    ⟨(some 56), .mv (.t 9), none, 0⟩,
    ⟨none, .st 10 (.t 2) (.t 55), none, 0⟩,
    ⟨(some 3), .mv (.c (.p (.o (.str ⟨#[]⟩)))), none, 0⟩,
    ⟨(some 4), .mv (.t 56), none, 0⟩] 0 none) .ret) .skip))))) (.reg [
    ⟨(some 57), .bin .add (.t 47) (.c (.p (.o (.int .i64 1)))), none, 0⟩,
    ⟨(some 47), .mv (.t 57), none, 0⟩] 0 none))))))) (.seq (.reg [
    ⟨(some 58), .ld none (.t 1), none, 0⟩,
    ⟨(some 59), .call 66 [(.t 58), (.c (.p (.o (.int .i64 6))))] 0, none, 0⟩,
    ⟨(some 10), .mv (.t 59), none, 0⟩] 0 none) (.seq (.reg [
    ⟨(some 60), .ld none (.t 1), none, 0⟩,
    ⟨(some 61), .ixs (.t 60) (.c (.p (.o (.int .i64 1)))), none, 0⟩,
    ⟨(some 62), .ld none (.t 1), none, 0⟩,
    ⟨(some 63), .call 66 [(.t 62), (.c (.p (.o (.int .i64 4))))] 0, none, 0⟩,
    ⟨(some 64), .cvi .u16 (.t 63), none, 0⟩,
    ⟨(some 65), .mv (.t 10), none, 0⟩,
    ⟨(some 66), .bin .and (.t 65) (.c (.p (.o (.int .i64 16384)))), none, 0⟩,
    ⟨(some 67), .bin .neq (.t 66) (.c (.p (.o (.int .i64 0)))), none, 0⟩,
    ⟨(some 68), .mv (.t 10), none, 0⟩,
    ⟨(some 69), .bin .and (.t 68) (.c (.p (.o (.int .i64 8192)))), none, 0⟩,
    ⟨(some 70), .bin .neq (.t 69) (.c (.p (.o (.int .i64 0)))), none, 0⟩,
    ⟨(some 71), .mv (.t 10), none, 0⟩,
    ⟨(some 72), .bin .and (.t 71) (.c (.p (.o (.int .i64 8191)))), none, 0⟩,
    ⟨(some 73), .bin .mul (.c (.p (.o (.int .i64 8)))) (.t 72), none, 0⟩,
    ⟨(some 74), .ld none (.t 1), none, 0⟩,
    ⟨(some 75), .ixs (.t 74) (.c (.p (.o (.int .i64 8)))), none, 0⟩,
    ⟨(some 76), .ld none (.t 1), none, 0⟩,
    ⟨(some 77), .ixs (.t 76) (.c (.p (.o (.int .i64 9)))), none, 0⟩,
    ⟨(some 78), .ld none (.t 1), none, 0⟩,
    ⟨(some 79), .ld none (.t 5), none, 0⟩,
    ⟨(some 80), .sls (.t 78) (some (.c (.p (.o (.int .i64 20))))) (some (.t 79)), none, 0⟩,
    ⟨(some 81), .bld [.int .u8 0, .int .u16 0, .bool false, .bool false, .int .i64 0, .int .u8 0, .int .u8 0, .int .u32 0, .int .u32 0, .str ⟨#[]⟩] [(0, 1, (.t 61)), (1, 1, (.t 64)), (2, 1, (.t 67)), (3, 1, (.t 70)), (4, 1, (.t 73)), (5, 1, (.t 75)), (6, 1, (.t 77)), (9, 1, (.t 80))], none, 0⟩,
    ⟨none, .st 10 (.t 2) (.t 81), none, 0⟩] 0 (some [(0, 2), (1, 2), (0, 3), (1, 3), (0, 4), (1, 4), (0, 5), (1, 5), (2, 5), (3, 5), (4, 5), (0, 6), (1, 6), (2, 6), (3, 6), (4, 6), (0, 7), (1, 7), (2, 7), (3, 7), (4, 7), (0, 8), (1, 8), (2, 8), (3, 8), (4, 8), (5, 8), (6, 8), (7, 8), (0, 9), (1, 9), (2, 9), (3, 9), (4, 9), (5, 9), (6, 9), (7, 9), (0, 10), (1, 10), (2, 10), (3, 10), (4, 10), (5, 10), (6, 10), (7, 10), (0, 11), (1, 11), (2, 11), (3, 11), (4, 11), (5, 11), (6, 11), (7, 11), (8, 11), (9, 11), (10, 11), (0, 12), (1, 12), (2, 12), (3, 12), (4, 12), (5, 12), (6, 12), (7, 12), (8, 12), (9, 12), (10, 12), (0, 13), (1, 13), (2, 13), (3, 13), (4, 13), (5, 13), (6, 13), (7, 13), (8, 13), (9, 13), (10, 13), (0, 14), (1, 14), (2, 14), (3, 14), (4, 14), (5, 14), (6, 14), (7, 14), (8, 14), (9, 14), (10, 14), (11, 14), (12, 14), (13, 14), (0, 15), (1, 15), (2, 15), (3, 15), (4, 15), (5, 15), (6, 15), (7, 15), (8, 15), (9, 15), (10, 15), (11, 15), (12, 15), (13, 15), (0, 16), (1, 16), (2, 16), (3, 16), (4, 16), (5, 16), (6, 16), (7, 16), (8, 16), (9, 16), (10, 16), (11, 16), (12, 16), (13, 16), (14, 16), (15, 16), (0, 17), (1, 17), (2, 17), (3, 17), (4, 17), (5, 17), (6, 17), (7, 17), (8, 17), (9, 17), (10, 17), (11, 17), (12, 17), (13, 17), (14, 17), (15, 17), (0, 18), (1, 18), (2, 18), (3, 18), (4, 18), (5, 18), (6, 18), (7, 18), (8, 18), (9, 18), (10, 18), (11, 18), (12, 18), (13, 18), (14, 18), (15, 18), (16, 18), (17, 18), (0, 19), (1, 19), (2, 19), (3, 19), (4, 19), (5, 19), (6, 19), (7, 19), (8, 19), (9, 19), (10, 19), (11, 19), (12, 19), (13, 19), (14, 19), (15, 19), (16, 19), (17, 19), (18, 19), (0, 20), (1, 20), (2, 20), (3, 20), (4, 20), (5, 20), (6, 20), (7, 20), (8, 20), (9, 20), (10, 20), (11, 20), (12, 20), (13, 20), (14, 20), (15, 20), (16, 20), (17, 20)])) (.seq (.reg [
    ⟨(some 83), .ld none (.t 1), none, 0⟩,
    ⟨(some 84), .call 49 [(.t 83), (.c (.p (.o (.int .i64 12))))] 0, none, 0⟩,
    ⟨(some 82), .mv (.t 84), none, 0⟩,
    ⟨(some 85), .ext 0 (.t 82), none, 0⟩,
    ⟨(some 86), .ext 1 (.t 82), none, 0⟩,
    ⟨(some 87), .fad 7 (.t 2), none, 0⟩,
    ⟨none, .st 1 (.t 87) (.t 85), none, 0⟩] 0 none) (.seq (.reg [
    ⟨(some 89), .ld none (.t 1), none, 0⟩,
    ⟨(some 90), .call 49 [(.t 89), (.c (.p (.o (.int .i64 16))))] 0, none, 0⟩,
    ⟨(some 88), .mv (.t 90), none, 0⟩,
    ⟨(some 91), .ext 0 (.t 88), none, 0⟩,
    ⟨(some 92), .ext 1 (.t 88), none, 0⟩,
    ⟨(some 93), .fad 8 (.t 2), none, 0⟩,
    ⟨none, .st 1 (.t 93) (.t 91), none, 0⟩] 0 none) (.seq (.seq (.reg [
    ⟨(some 94), .mv (.t 10), none, 0⟩,
    ⟨(some 95), .bin .and (.t 94) (.c (.p (.o (.int .i64 32768)))), none, 0⟩,
    ⟨(some 96), .bin .neq (.t 95) (.c (.p (.o (.int .i64 0)))), none, 0⟩,
    ⟨(some 97), .mv (.t 96), none, 0⟩,
    ⟨(some 98), .ld (some 10) (.t 2), (some (97, false)), 0⟩,
    ⟨(some 99), .mv (.t 6), (some (97, false)), 0⟩,
    ⟨(some 100), .ld none (.t 5), (some (97, false)), 0⟩,
    ⟨(some 101), .bin .sub (.t 99) (.t 100), (some (97, false)), 0⟩,
    ⟨(some 102), .call 61 [(.t 98), (.t 101)] 0, (some (97, false)), 0⟩,
    ⟨(some 103), .un .not (.t 102), (some (97, false)), 0⟩,
    ⟨(some 104), .pick (.t 97) (.c (.p (.o (.bool true)))) (.t 103), none, 0⟩,
    ⟨(some 105), .mv (.t 104), none, 0⟩,
    ⟨(some 106), .ld (some 10) (.t 2), (some (105, false)), 0⟩,
    ⟨(some 107), .mv (.t 6), (some (105, false)), 0⟩,
    ⟨(some 108), .ld none (.t 5), (some (105, false)), 0⟩,
    ⟨(some 109), .bin .sub (.t 107) (.t 108), (some (105, false)), 0⟩,
    ⟨(some 110), .call 62 [(.t 106), (.t 109)] 0, (some (105, false)), 0⟩,
    ⟨(some 111), .un .not (.t 110), (some (105, false)), 0⟩,
    ⟨(some 112), .pick (.t 105) (.c (.p (.o (.bool true)))) (.t 111), none, 0⟩] 0 none) (.cond (.t 112) (.seq (.reg [
    ⟨(some 113), .bld [.int .u8 0, .int .u16 0, .bool false, .bool false, .int .i64 0, .int .u8 0, .int .u8 0, .int .u32 0, .int .u32 0, .str ⟨#[]⟩] [], none, 0⟩,
    ⟨none, .st 10 (.t 2) (.t 113), none, 0⟩,
    ⟨(some 3), .mv (.c (.p (.o (.str ⟨#[]⟩)))), none, 0⟩,
    ⟨(some 4), .mv (.c (.p (.o (.int .i64 8)))), none, 0⟩] 0 none) .ret) .skip)) (.seq (.reg [
    ⟨(some 114), .ld (some 10) (.t 2), none, 0⟩,
    ⟨(some 115), .ld none (.t 1), none, 0⟩,
    ⟨(some 116), .ld none (.t 5), none, 0⟩,
    ⟨(some 117), .mv (.t 6), none, 0⟩,
    ⟨(some 118), .sls (.t 115) (some (.t 116)) (some (.t 117)), none, 0⟩,
    ⟨none, .st 10 (.t 2) (.t 114), none, 0⟩,
    ⟨(some 3), .mv (.t 118), none, 0⟩,
    ⟨(some 4), .mv (.c (.p (.o (.int .i64 0)))), none, 0⟩] 0 (some [(0, 1), (0, 2), (1, 2), (0, 3), (1, 3), (2, 3), (0, 4), (1, 5), (2, 5), (3, 5), (4, 5)])) .ret)))))))))),
  [.cell 2 (some 10), .tmp 3, .tmp 4], 119, [0, 1, 2, 3, 4, 5, 6, 8, 9, 10, 45, 46, 47]⟩
theorem ok_ip4_Decode : cFn Try.prog eqsT newsT vf_ip4_Decode.keep Try.f29 = some vf_ip4_Decode := by kernel_rfl
def vf_ref10_May : VFn := ⟨(.seq (.reg [
    ⟨(some 1), .box (.t 0), none, 0⟩,
    ⟨(some 2), .mv (.c (.p (.o (.bool false)))), none, 1⟩] 1 none) (.seq (.reg [
    ⟨(some 3), .fad 4 (.t 1), none, 0⟩,
    ⟨(some 4), .ld none (.t 3), none, 0⟩,
    ⟨(some 5), .bin .geq (.t 4) (.c (.p (.o (.int .i64 0)))), none, 0⟩,
    ⟨(some 6), .mv (.t 5), none, 0⟩,
    ⟨(some 7), .fad 4 (.t 1), (some (6, true)), 0⟩,
    ⟨(some 8), .ld none (.t 7), (some (6, true)), 0⟩,
    ⟨(some 9), .bin .leq (.t 8) (.c (.p (.o (.int .i64 65528)))), (some (6, true)), 0⟩,
    ⟨(some 10), .pick (.t 6) (.t 9) (.c (.p (.o (.bool false)))), none, 0⟩,
    ⟨(some 11), .mv (.t 10), none, 0⟩,
    ⟨(some 12), .fad 4 (.t 1), (some (11, true)), 0⟩,
    ⟨(some 13), .ld none (.t 12), (some (11, true)), 0⟩,
    ⟨(some 14), .bin .rem (.t 13) (.c (.p (.o (.int .i64 8)))), (some (11, true)), 0⟩,
    ⟨(some 15), .bin .eql (.t 14) (.c (.p (.o (.int .i64 0)))), (some (11, true)), 0⟩,
    ⟨(some 16), .pick (.t 11) (.t 15) (.c (.p (.o (.bool false)))), none, 0⟩,
    ⟨(some 17), .mv (.t 16), none, 0⟩,
    ⟨(some 18), .fad 9 (.t 1), (some (17, true)), 0⟩,
    ⟨(some 19), .ld none (.t 18), (some (17, true)), 0⟩,
    ⟨(some 20), .len false (.t 19), (some (17, true)), 0⟩,
    ⟨(some 21), .bin .leq (.t 20) (.c (.p (.o (.int .i64 40)))), (some (17, true)), 0⟩,
    ⟨(some 22), .pick (.t 17) (.t 21) (.c (.p (.o (.bool false)))), none, 0⟩,
    ⟨(some 23), .mv (.t 22), none, 0⟩,
    ⟨(some 24), .fad 9 (.t 1), (some (23, true)), 0⟩,
    ⟨(some 25), .ld none (.t 24), (some (23, true)), 0⟩,
    ⟨(some 26), .len false (.t 25), (some (23, true)), 0⟩,
    ⟨(some 27), .bin .rem (.t 26) (.c (.p (.o (.int .i64 4)))), (some (23, true)), 0⟩,
    ⟨(some 28), .bin .eql (.t 27) (.c (.p (.o (.int .i64 0)))), (some (23, true)), 0⟩,
    ⟨(some 29), .pick (.t 23) (.t 28) (.c (.p (.o (.bool false)))), none, 0⟩,
    ⟨(some 2), .mv (.t 29), none, 0⟩] 0 none) .ret)),
  [.tmp 2], 30, [0, 1, 2]⟩
theorem ok_ref10_May : cFn Try.prog eqsT newsT vf_ref10_May.keep Try.f32 = some vf_ref10_May := by kernel_rfl
def vf_ref10_whole : VFn := ⟨(.seq (.reg [
    ⟨(some 2), .box (.t 0), none, 0⟩,
    ⟨(some 4), .mv (.c (.p (.o (.bool false)))), none, 1⟩] 1 none) (.seq (.reg [
    ⟨(some 5), .fad 3 (.t 2), none, 0⟩,
    ⟨(some 6), .ld none (.t 5), none, 0⟩,
    ⟨(some 7), .un .not (.t 6), none, 0⟩,
    ⟨(some 8), .mv (.t 7), none, 0⟩,
    ⟨(some 9), .mv (.t 1), (some (8, false)), 0⟩,
    ⟨(some 10), .bin .gtr (.t 9) (.c (.p (.o (.int .i64 0)))), (some (8, false)), 0⟩,
    ⟨(some 11), .mv (.t 10), (some (8, false)), 0⟩,
    ⟨(some 12), .mv (.t 1), (some (11, true)), 0⟩,
    ⟨(some 13), .bin .rem (.t 12) (.c (.p (.o (.int .i64 8)))), (some (11, true)), 0⟩,
    ⟨(some 14), .bin .eql (.t 13) (.c (.p (.o (.int .i64 0)))), (some (11, true)), 0⟩,
    ⟨(some 15), .pick (.t 11) (.t 14) (.c (.p (.o (.bool false)))), (some (8, false)), 0⟩,
    ⟨(some 16), .pick (.t 8) (.c (.p (.o (.bool true)))) (.t 15), none, 0⟩,
    ⟨(some 4), .mv (.t 16), none, 0⟩] 0 none) .ret)),
  [.tmp 4], 17, [0, 1, 2, 4]⟩
theorem ok_ref10_whole : cFn Try.prog eqsT newsT vf_ref10_whole.keep Try.f63 = some vf_ref10_whole := by kernel_rfl
def vf_ref10_fits : VFn := ⟨(.seq (.reg [
    ⟨(some 2), .box (.t 0), none, 0⟩,
    ⟨(some 4), .mv (.c (.p (.o (.bool false)))), none, 1⟩] 1 none) (.seq (.reg [
    ⟨(some 5), .fad 4 (.t 2), none, 0⟩,
    ⟨(some 6), .ld none (.t 5), none, 0⟩,
    ⟨(some 7), .mv (.t 1), none, 0⟩,
    ⟨(some 8), .bin .add (.t 6) (.t 7), none, 0⟩,
    ⟨(some 9), .fad 9 (.t 2), none, 0⟩,
    ⟨(some 10), .ld none (.t 9), none, 0⟩,
    ⟨(some 11), .len false (.t 10), none, 0⟩,
    ⟨(some 12), .bin .sub (.c (.p (.o (.int .i64 65515)))) (.t 11), none, 0⟩,
    ⟨(some 13), .bin .leq (.t 8) (.t 12), none, 0⟩,
    ⟨(some 4), .mv (.t 13), none, 0⟩] 0 none) .ret)),
  [.tmp 4], 14, [0, 1, 2, 4]⟩
theorem ok_ref10_fits : cFn Try.prog eqsT newsT vf_ref10_fits.keep Try.f64 = some vf_ref10_fits := by kernel_rfl
def vf_ref10_Raw : VFn := ⟨(.seq (.reg [
    ⟨(some 2), .box (.t 0), none, 0⟩,
    ⟨(some 4), .mv (.c (.p (.o (.str ⟨#[]⟩)))), none, 1⟩] 1 none) (.seq (.reg [
    ⟨(some 9), .fad 4 (.t 2), none, 0⟩,
    ⟨(some 10), .ld none (.t 9), none, 0⟩,
    ⟨(some 11), .bin .quo (.t 10) (.c (.p (.o (.int .i64 8)))), none, 0⟩,
    ⟨(some 5), .mv (.t 11), none, 0⟩] 0 none) (.seq (.seq (.reg [
    ⟨(some 12), .fad 2 (.t 2), none, 0⟩,
    ⟨(some 13), .ld none (.t 12), none, 0⟩] 0 none) (.cond (.t 13) (.reg [
    ⟨(some 14), .mv (.t 5), none, 0⟩,
    ⟨(some 15), .bin .add (.t 14) (.c (.p (.o (.int .i64 16384)))), none, 0⟩,
    ⟨(some 5), .mv (.t 15), none, 0⟩] 0 none) .skip)) (.seq (.seq (.reg [
    ⟨(some 16), .fad 3 (.t 2), none, 0⟩,
    ⟨(some 17), .ld none (.t 16), none, 0⟩] 0 none) (.cond (.t 17) (.reg [
    ⟨(some 18), .mv (.t 5), none, 0⟩,
    ⟨(some 19), .bin .add (.t 18) (.c (.p (.o (.int .i64 8192)))), none, 0⟩,
    ⟨(some 5), .mv (.t 19), none, 0⟩] 0 none) .skip)) (.seq (.reg [
    ⟨(some 20), .fad 9 (.t 2), none, 0⟩,
    ⟨(some 21), .ld none (.t 20), none, 0⟩,
    ⟨(some 22), .len false (.t 21), none, 0⟩,
    ⟨(some 23), .bin .add (.c (.p (.o (.int .i64 20)))) (.t 22), none, 0⟩,
    ⟨(some 6), .mv (.t 23), none, 0⟩] 0 none) (.seq (.reg [
    ⟨(some 24), .mv (.t 6), none, 0⟩,
    ⟨(some 25), .bin .quo (.t 24) (.c (.p (.o (.int .i64 4)))), none, 0⟩,
    ⟨(some 26), .bin .add (.c (.p (.o (.int .i64 64)))) (.t 25), none, 0⟩,
    ⟨(some 27), .cvi .u8 (.t 26), none, 0⟩,
    ⟨(some 28), .fad 0 (.t 2), none, 0⟩,
    ⟨(some 29), .ld none (.t 28), none, 0⟩,
    ⟨(some 30), .bsl 2 [.int .u8 0, .int .u8 0] [(0, 1, (.t 27)), (1, 1, (.t 29))], none, 0⟩,
    ⟨(some 31), .b2s (.t 30), none, 1⟩,
    ⟨(some 32), .mv (.t 6), none, 1⟩,
    ⟨(some 33), .mv (.t 1), none, 1⟩,
    ⟨(some 34), .len false (.t 33), none, 1⟩,
    ⟨(some 35), .bin .add (.t 32) (.t 34), none, 1⟩,
    ⟨(some 36), .cvi .u64 (.t 35), none, 1⟩,
    ⟨(some 37), .call 46 [(.t 36), (.c (.p (.o (.int .i64 2))))] 0, none, 1⟩,
    ⟨(some 38), .bin .add (.t 31) (.t 37), none, 1⟩,
    ⟨(some 39), .fad 1 (.t 2), none, 1⟩,
    ⟨(some 40), .ld none (.t 39), none, 1⟩,
    ⟨(some 41), .cvi .u64 (.t 40), none, 1⟩,
    ⟨(some 42), .call 46 [(.t 41), (.c (.p (.o (.int .i64 2))))] 0, none, 1⟩,
    ⟨(some 43), .bin .add (.t 38) (.t 42), none, 1⟩,
    ⟨(some 44), .mv (.t 5), none, 1⟩,
    ⟨(some 45), .cvi .u64 (.t 44), none, 1⟩,
    ⟨(some 46), .call 46 [(.t 45), (.c (.p (.o (.int .i64 2))))] 0, none, 1⟩,
    ⟨(some 47), .bin .add (.t 43) (.t 46), none, 1⟩,
    ⟨(some 48), .fad 5 (.t 2), none, 1⟩,
    ⟨(some 49), .ld none (.t 48), none, 1⟩,
    ⟨(some 50), .fad 6 (.t 2), none, 1⟩,
    ⟨(some 51), .ld none (.t 50), none, 1⟩,
    ⟨(some 52), .bsl 2 [.int .u8 0, .int .u8 0] [(0, 1, (.t 49)), (1, 1, (.t 51))], none, 1⟩,
    ⟨(some 53), .b2s (.t 52), none, 2⟩,
    ⟨(some 54), .bin .add (.t 47) (.t 53), none, 2⟩,
    ⟨(some 7), .mv (.t 54), none, 2⟩] 2 (some [(0, 4), (1, 4), (2, 4), (3, 4), (0, 5), (1, 5), (2, 5), (3, 5), (0, 8), (1, 8), (2, 8), (3, 8), (4, 8), (5, 8), (6, 8), (7, 8), (0, 9), (1, 9), (2, 9), (3, 9), (4, 9), (5, 9), (6, 9), (7, 9), (8, 9), (0, 10), (1, 10), (2, 10), (3, 10), (4, 10), (5, 10), (6, 10), (7, 10), (8, 10), (0, 11), (1, 11), (2, 11), (3, 11), (4, 11), (5, 11), (6, 11), (7, 11), (0, 12), (1, 12), (2, 12), (3, 12), (4, 12), (5, 12), (6, 12), (7, 12), (0, 13), (1, 13), (2, 13), (3, 13), (4, 13), (5, 13), (6, 13), (7, 13), (0, 15), (1, 15), (2, 15), (3, 15), (4, 15), (5, 15), (6, 15), (7, 15), (8, 15), (9, 15), (10, 15), (11, 15), (12, 15), (13, 15), (14, 15), (0, 16), (1, 16), (2, 16), (3, 16), (4, 16), (5, 16), (6, 16), (7, 16), (8, 16), (9, 16), (10, 16), (11, 16), (12, 16), (13, 16), (14, 16), (0, 17), (1, 17), (2, 17), (3, 17), (4, 17), (5, 17), (6, 17), (7, 17), (8, 17), (9, 17), (10, 17), (11, 17), (12, 17), (13, 17), (14, 17), (0, 18), (1, 18), (2, 18), (3, 18), (4, 18), (5, 18), (6, 18), (7, 18), (14, 18), (0, 20), (1, 20), (2, 20), (3, 20), (4, 20), (5, 20), (6, 20), (7, 20), (8, 20), (9, 20), (10, 20), (11, 20), (12, 20), (13, 20), (14, 20), (15, 20), (16, 20), (17, 20), (18, 20), (19, 20), (0, 21), (1, 21), (2, 21), (3, 21), (4, 21), (5, 21), (6, 21), (7, 21), (8, 21), (9, 21), (10, 21), (11, 21), (12, 21), (13, 21), (14, 21), (15, 21), (16, 21), (17, 21), (18, 21), (19, 21), (0, 22), (1, 22), (2, 22), (3, 22), (4, 22), (5, 22), (6, 22), (7, 22), (14, 22), (19, 22), (0, 24), (1, 24), (2, 24), (3, 24), (4, 24), (5, 24), (6, 24), (7, 24), (8, 24), (9, 24), (10, 24), (11, 24), (12, 24), (13, 24), (14, 24), (15, 24), (16, 24), (17, 24), (18, 24), (19, 24), (20, 24), (21, 24), (22, 24), (23, 24), (0, 25), (1, 25), (2, 25), (3, 25), (4, 25), (5, 25), (6, 25), (7, 25), (8, 25), (9, 25), (10, 25), (11, 25), (12, 25), (13, 25), (14, 25), (15, 25), (16, 25), (17, 25), (18, 25), (19, 25), (20, 25), (21, 25), (22, 25), (23, 25), (0, 26), (1, 26), (2, 26), (3, 26), (4, 26), (5, 26), (6, 26), (7, 26), (8, 26), (9, 26), (10, 26), (11, 26), (12, 26), (13, 26), (14, 26), (15, 26), (16, 26), (17, 26), (18, 26), (19, 26), (20, 26), (21, 26), (22, 26), (23, 26), (24, 26), (25, 26), (0, 27), (1, 27), (2, 27), (3, 27), (4, 27), (5, 27), (6, 27), (7, 27), (8, 27), (9, 27), (10, 27), (11, 27), (12, 27), (13, 27), (14, 27), (15, 27), (16, 27), (17, 27), (18, 27), (19, 27), (20, 27), (21, 27), (22, 27), (23, 27), (24, 27), (25, 27), (0, 28), (1, 28), (2, 28), (3, 28), (4, 28), (5, 28), (6, 28), (7, 28), (8, 28), (9, 28), (10, 28), (11, 28), (12, 28), (13, 28), (14, 28), (15, 28), (16, 28), (17, 28), (18, 28), (19, 28), (20, 28), (21, 28), (22, 28), (23, 28), (0, 29), (1, 29), (2, 29), (3, 29), (4, 29), (5, 29), (6, 29), (7, 29), (8, 29), (9, 29), (10, 29), (11, 29), (12, 29), (13, 29), (14, 29), (15, 29), (16, 29), (17, 29), (18, 29), (19, 29), (20, 29), (21, 29), (22, 29), (23, 29)])) (.seq (.reg [
    ⟨(some 55), .fad 7 (.t 2), none, 0⟩,
    ⟨(some 56), .ld none (.t 55), none, 0⟩,
    ⟨(some 57), .cvi .u64 (.t 56), none, 0⟩,
    ⟨(some 58), .call 46 [(.t 57), (.c (.p (.o (.int .i64 4))))] 0, none, 0⟩,
    ⟨(some 59), .fad 8 (.t 2), none, 0⟩,
    ⟨(some 60), .ld none (.t 59), none, 0⟩,
    ⟨(some 61), .cvi .u64 (.t 60), none, 0⟩,
    ⟨(some 62), .call 46 [(.t 61), (.c (.p (.o (.int .i64 4))))] 0, none, 0⟩,
    ⟨(some 63), .bin .add (.t 58) (.t 62), none, 0⟩,
    ⟨(some 64), .fad 9 (.t 2), none, 0⟩,
    ⟨(some 65), .ld none (.t 64), none, 0⟩,
    ⟨(some 66), .bin .add (.t 63) (.t 65), none, 0⟩,
    ⟨(some 8), .mv (.t 66), none, 0⟩] 0 (some [(0, 4), (1, 4), (2, 4), (3, 4), (0, 5), (1, 5), (2, 5), (3, 5), (0, 6), (1, 6), (2, 6), (3, 6), (0, 9), (1, 9), (2, 9), (3, 9), (4, 9), (5, 9), (6, 9), (7, 9), (8, 9), (0, 10), (1, 10), (2, 10), (3, 10), (4, 10), (5, 10), (6, 10), (7, 10), (8, 10)])) (.seq (.reg [
    ⟨(some 67), .mv (.t 7), none, 0⟩,
    ⟨(some 68), .mv (.t 7), none, 0⟩,
    ⟨(some 69), .bin .add (.t 68) (.c (.p (.o (.str ⟨#[0, 0]⟩)))), none, 0⟩,
    ⟨(some 70), .mv (.t 8), none, 0⟩,
    ⟨(some 71), .bin .add (.t 69) (.t 70), none, 0⟩,
    ⟨(some 72), .call 47 [(.t 71)] 0, none, 0⟩,
    ⟨(some 73), .cvi .u64 (.t 72), none, 0⟩,
    ⟨(some 74), .call 46 [(.t 73), (.c (.p (.o (.int .i64 2))))] 0, none, 0⟩,
    ⟨(some 75), .bin .add (.t 67) (.t 74), none, 0⟩,
    ⟨(some 76), .mv (.t 8), none, 0⟩,
    ⟨(some 77), .bin .add (.t 75) (.t 76), none, 0⟩,
    ⟨(some 78), .mv (.t 1), none, 0⟩,
    ⟨(some 79), .bin .add (.t 77) (.t 78), none, 0⟩,
    ⟨(some 4), .mv (.t 79), none, 0⟩] 0 none) .ret)))))))),
  [.tmp 4], 80, [0, 1, 2, 4, 5, 6, 7, 8]⟩
theorem ok_ref10_Raw : cFn Try.prog eqsT newsT vf_ref10_Raw.keep Try.f65 = some vf_ref10_Raw := by kernel_rfl
def vf_ref10_Encode : VFn := ⟨(.seq (.reg [
    ⟨(some 2), .box (.t 0), none, 0⟩,
    ⟨(some 4), .mv (.c (.p (.o (.str ⟨#[]⟩)))), none, 1⟩,
    ⟨(some 5), .mv (.c (.p (.o (.int .i64 0)))), none, 1⟩] 1 none) (.seq (.seq (.reg [
    ⟨(some 6), .ld (some 10) (.t 2), none, 0⟩,
    ⟨(some 7), .call 32 [(.t 6)] 0, none, 0⟩,
    ⟨(some 8), .un .not (.t 7), none, 0⟩,
    ⟨(some 9), .mv (.t 8), none, 0⟩,
    ⟨(some 10), .ld (some 10) (.t 2), (some (9, false)), 0⟩,
    ⟨(some 11), .mv (.t 1), (some (9, false)), 0⟩,
    ⟨(some 12), .len false (.t 11), (some (9, false)), 0⟩,
    ⟨(some 13), .call 63 [(.t 10), (.t 12)] 0, (some (9, false)), 0⟩,
    ⟨(some 14), .un .not (.t 13), (some (9, false)), 0⟩,
    ⟨(some 15), .pick (.t 9) (.c (.p (.o (.bool true)))) (.t 14), none, 0⟩] 0 none) (.cond (.t 15) (.seq (.reg [
    ⟨(some 4), .mv (.c (.p (.o (.str ⟨#[]⟩)))), none, 0⟩,
    ⟨(some 5), .mv (.c (.p (.o (.int .i64 2)))), none, 0⟩] 0 none) .ret) .skip)) (.seq (.seq (.reg [
    ⟨(some 16), .ld (some 10) (.t 2), none, 0⟩,
    ⟨(some 17), .mv (.t 1), none, 0⟩,
    ⟨(some 18), .len false (.t 17), none, 0⟩,
    ⟨(some 19), .call 64 [(.t 16), (.t 18)] 0, none, 0⟩,
    ⟨(some 20), .un .not (.t 19), none, 0⟩] 0 none) (.cond (.t 20) (.seq (.reg [
    ⟨(some 4), .mv (.c (.p (.o (.str ⟨#[]⟩)))), none, 0⟩,
    ⟨(some 5), .mv (.c (.p (.o (.int .i64 4)))), none, 0⟩] 0 none) .ret) .skip)) (.seq (.reg [
    ⟨(some 21), .ld (some 10) (.t 2), none, 0⟩,
    ⟨(some 22), .mv (.t 1), none, 0⟩,
    ⟨(some 23), .call 65 [(.t 21), (.t 22)] 0, none, 0⟩,
    ⟨(some 4), .mv (.t 23), none, 0⟩,
    ⟨(some 5), .mv (.c (.p (.o (.int .i64 0)))), none, 0⟩] 0 none) .ret)))),
  [.tmp 4, .tmp 5], 24, [0, 1, 2, 4, 5]⟩
theorem ok_ref10_Encode : cFn Try.prog eqsT newsT vf_ref10_Encode.keep Try.f28 = some vf_ref10_Encode := by kernel_rfl
def vf_ref10_two : VFn := ⟨(.seq (.reg [
    ⟨(some 4), .mv (.c (.p (.o (.int .i64 0)))), none, 0⟩] 0 none) (.seq (.reg [
    ⟨(some 8), .mv (.t 0), none, 0⟩,
    ⟨(some 9), .mv (.t 1), none, 0⟩,
    ⟨(some 10), .call 51 [(.t 8), (.t 9), (.c (.p (.o (.int .i64 2))))] 0, none, 0⟩,
    ⟨(some 7), .mv (.t 10), none, 0⟩,
    ⟨(some 11), .ext 0 (.t 7), none, 0⟩,
    ⟨(some 12), .ext 1 (.t 7), none, 0⟩,
    ⟨(some 5), .mv (.t 11), none, 0⟩,
    ⟨(some 6), .mv (.t 12), none, 0⟩] 0 none) (.seq (.reg [
    ⟨(some 13), .mv (.t 5), none, 0⟩,
    ⟨(some 14), .cvi .i64 (.t 13), none, 0⟩,
    ⟨(some 4), .mv (.t 14), none, 0⟩] 0 none) .ret))),
  [.tmp 4], 15, [0, 1, 4, 5]⟩
theorem ok_ref10_two : cFn Try.prog eqsT newsT vf_ref10_two.keep Try.f69 = some vf_ref10_two := by kernel_rfl
def vf_ref10_four : VFn := ⟨(.seq (.reg [
    ⟨(some 4), .mv (.c (.p (.o (.int .u32 0)))), none, 0⟩] 0 none) (.seq (.reg [
    ⟨(some 8), .mv (.t 0), none, 0⟩,
    ⟨(some 9), .mv (.t 1), none, 0⟩,
    ⟨(some 10), .call 51 [(.t 8), (.t 9), (.c (.p (.o (.int .i64 4))))] 0, none, 0⟩,
    ⟨(some 7), .mv (.t 10), none, 0⟩,
    ⟨(some 11), .ext 0 (.t 7), none, 0⟩,
    ⟨(some 12), .ext 1 (.t 7), none, 0⟩,
    ⟨(some 5), .mv (.t 11), none, 0⟩,
    ⟨(some 6), .mv (.t 12), none, 0⟩] 0 none) (.seq (.reg [
    ⟨(some 13), .mv (.t 5), none, 0⟩,
    ⟨(some 14), .cvi .u32 (.t 13), none, 0⟩,
    ⟨(some 4), .mv (.t 14), none, 0⟩] 0 none) .ret))),
  [.tmp 4], 15, [0, 1, 4, 5]⟩
theorem ok_ref10_four : cFn Try.prog eqsT newsT vf_ref10_four.keep Try.f70 = some vf_ref10_four := by kernel_rfl
def vf_ref10_Decode : VFn := ⟨(.seq (.reg [
    ⟨(some 2), .new [.int .u8 0, .int .u16 0, .bool false, .bool false, .int .i64 0, .int .u8 0, .int .u8 0, .int .u32 0, .int .u32 0, .str ⟨#[]⟩], none, 0⟩,
    ⟨(some 3), .mv (.c (.p (.o (.str ⟨#[]⟩)))), none, 1⟩,
    ⟨(some 4), .mv (.c (.p (.o (.int .i64 0)))), none, 1⟩] 1 none) (.seq (.seq (.reg [
    ⟨(some 9), .mv (.t 0), none, 0⟩,
    ⟨(some 10), .len false (.t 9), none, 0⟩,
    ⟨(some 11), .bin .lss (.t 10) (.c (.p (.o (.int .i64 20)))), none, 0⟩] 0 none) (.cond (.t 11) (.seq (.reg [
    ⟨(some 12), .bld [.int .u8 0, .int .u16 0, .bool false, .bool false, .int .i64 0, .int .u8 0, .int .u8 0, .int .u32 0, .int .u32 0, .str ⟨#[]⟩] [], none, 0⟩,
    ⟨none, .st 10 (.t 2) (.t 12), none, 0⟩,
    ⟨(some 3), .mv (.c (.p (.o (.str ⟨#[]⟩)))), none, 0⟩,
    ⟨(some 4), .mv (.c (.p (.o (.int .i64 10)))), none, 0⟩] 0 none) .ret) .skip)) (.seq (.seq (.reg [
    ⟨(some 13), .mv (.t 0), none, 0⟩,
    ⟨(some 14), .ixs (.t 13) (.c (.p (.o (.int .i64 0)))), none, 0⟩,
    ⟨(some 15), .bin .shr (.t 14) (.c (.p (.o (.int .u64 4)))), none, 0⟩,
    ⟨(some 16), .bin .neq (.t 15) (.c (.p (.o (.int .u8 4)))), none, 0⟩] 0 none) (.cond (.t 16) (.seq (.reg [
    ⟨(some 17), .bld [.int .u8 0, .int .u16 0, .bool false, .bool false, .int .i64 0, .int .u8 0, .int .u8 0, .int .u32 0, .int .u32 0, .str ⟨#[]⟩] [], none, 0⟩,
    ⟨none, .st 10 (.t 2) (.t 17), none, 0⟩,
    ⟨(some 3), .mv (.c (.p (.o (.str ⟨#[]⟩)))), none, 0⟩,
    ⟨(some 4), .mv (.c (.p (.o (.int .i64 100)))), none, 0⟩] 0 none) .ret) .skip)) (.seq (.reg [
    ⟨(some 18), .mv (.t 0), none, 0⟩,
    ⟨(some 19), .ixs (.t 18) (.c (.p (.o (.int .i64 0)))), none, 0⟩,
    ⟨(some 20), .bin .and (.t 19) (.c (.p (.o (.int .u8 15)))), none, 0⟩,
    ⟨(some 21), .cvi .i64 (.t 20), none, 0⟩,
    ⟨(some 22), .bin .mul (.c (.p (.o (.int .i64 4)))) (.t 21), none, 0⟩,
    ⟨(some 5), .mv (.t 22), none, 0⟩] 0 none) (.seq (.seq (.reg [
    ⟨(some 23), .mv (.t 5), none, 0⟩,
    ⟨(some 24), .bin .lss (.t 23) (.c (.p (.o (.int .i64 20)))), none, 0⟩] 0 none) (.cond (.t 24) (.seq (.reg [
    ⟨(some 25), .bld [.int .u8 0, .int .u16 0, .bool false, .bool false, .int .i64 0, .int .u8 0, .int .u8 0, .int .u32 0, .int .u32 0, .str ⟨#[]⟩] [], none, 0⟩,
    ⟨none, .st 10 (.t 2) (.t 25), none, 0⟩,
    ⟨(some 3), .mv (.c (.p (.o (.str ⟨#[]⟩)))), none, 0⟩,
    ⟨(some 4), .mv (.c (.p (.o (.int .i64 8)))), none, 0⟩] 0 none) .ret) .skip)) (.seq (.seq (.reg [
    ⟨(some 26), .mv (.t 0), none, 0⟩,
    ⟨(some 27), .len false (.t 26), none, 0⟩,
    ⟨(some 28), .mv (.t 5), none, 0⟩,
    ⟨(some 29), .bin .lss (.t 27) (.t 28), none, 0⟩] 0 none) (.cond (.t 29) (.seq (.reg [
    ⟨(some 30), .bld [.int .u8 0, .int .u16 0, .bool false, .bool false, .int .i64 0, .int .u8 0, .int .u8 0, .int .u32 0, .int .u32 0, .str ⟨#[]⟩] [], none, 0⟩,
    ⟨none, .st 10 (.t 2) (.t 30), none, 0⟩,
    ⟨(some 3), .mv (.c (.p (.o (.str ⟨#[]⟩)))), none, 0⟩,
    ⟨(some 4), .mv (.c (.p (.o (.int .i64 10)))), none, 0⟩] 0 none) .ret) .skip)) (.seq (.reg [
    ⟨(some 31), .mv (.t 0), none, 0⟩,
    ⟨(some 32), .call 69 [(.t 31), (.c (.p (.o (.int .i64 2))))] 0, none, 0⟩,
    ⟨(some 6), .mv (.t 32), none, 0⟩] 0 none) (.seq (.seq (.reg [
    ⟨(some 33), .mv (.t 6), none, 0⟩,
    ⟨(some 34), .mv (.t 5), none, 0⟩,
    ⟨(some 35), .bin .lss (.t 33) (.t 34), none, 0⟩] 0 none) (.cond (.t 35) (.seq (.reg [
    ⟨(some 36), .bld [.int .u8 0, .int .u16 0, .bool false, .bool false, .int .i64 0, .int .u8 0, .int .u8 0, .int .u32 0, .int .u32 0, .str ⟨#[]⟩] [], none, 0⟩,
    ⟨none, .st 10 (.t 2) (.t 36), none, 0⟩,
    ⟨(some 3), .mv (.c (.p (.o (.str ⟨#[]⟩)))), none, 0⟩,
    ⟨(some 4), .mv (.c (.p (.o (.int .i64 8)))), none, 0⟩] 0 none) .ret) .skip)) (.seq (.seq (.reg [
    ⟨(some 37), .mv (.t 0), none, 0⟩,
    ⟨(some 38), .len false (.t 37), none, 0⟩,
    ⟨(some 39), .mv (.t 6), none, 0⟩,
    ⟨(some 40), .bin .lss (.t 38) (.t 39), none, 0⟩] 0 none) (.cond (.t 40) (.seq (.reg [
    ⟨(some 41), .bld [.int .u8 0, .int .u16 0, .bool false, .bool false, .int .i64 0, .int .u8 0, .int .u8 0, .int .u32 0, .int .u32 0, .str ⟨#[]⟩] [], none, 0⟩,
    ⟨none, .st 10 (.t 2) (.t 41), none, 0⟩,
    ⟨(some 3), .mv (.c (.p (.o (.str ⟨#[]⟩)))), none, 0⟩,
    ⟨(some 4), .mv (.c (.p (.o (.int .i64 10)))), none, 0⟩] 0 none) .ret) .skip)) (.seq (.seq (.reg [
    ⟨(some 42), .mv (.t 0), none, 0⟩,
    ⟨(some 43), .mv (.t 5), none, 0⟩,
    ⟨(some 44), .sls (.t 42) none (some (.t 43)), none, 0⟩,
    ⟨(some 45), .call 50 [(.t 44)] 0, none, 0⟩,
    ⟨(some 46), .un .not (.t 45), none, 0⟩] 0 none) (.cond (.t 46) (.seq (.reg [
    ⟨(some 47), .bld [.int .u8 0, .int .u16 0, .bool false, .bool false, .int .i64 0, .int .u8 0, .int .u8 0, .int .u32 0, .int .u32 0, .str ⟨#[]⟩] [], none, 0⟩,
    ⟨none, .st 10 (.t 2) (.t 47), none, 0⟩,
    ⟨(some 3), .mv (.c (.p (.o (.str ⟨#[]⟩)))), none, 0⟩,
    ⟨(some 4), .mv (.c (.p (.o (.int .i64 101)))), none, 0⟩] 0 none) .ret) .skip)) (.seq (.reg [
    ⟨(some 48), .mv (.t 0), none, 0⟩,
    ⟨(some 49), .call 69 [(.t 48), (.c (.p (.o (.int .i64 6))))] 0, none, 0⟩,
    ⟨(some 7), .mv (.t 49), none, 0⟩] 0 none) (.seq (.reg [
    ⟨(some 50), .mv (.t 0), none, 0⟩,
    ⟨(some 51), .ixs (.t 50) (.c (.p (.o (.int .i64 1)))), none, 0⟩,
    ⟨(some 52), .mv (.t 0), none, 0⟩,
    ⟨(some 53), .call 69 [(.t 52), (.c (.p (.o (.int .i64 4))))] 0, none, 0⟩,
    ⟨(some 54), .cvi .u16 (.t 53), none, 0⟩,
    ⟨(some 55), .mv (.t 7), none, 0⟩,
    ⟨(some 56), .bin .and (.t 55) (.c (.p (.o (.int .i64 16384)))), none, 0⟩,
    ⟨(some 57), .bin .neq (.t 56) (.c (.p (.o (.int .i64 0)))), none, 0⟩,
    ⟨(some 58), .mv (.t 7), none, 0⟩,
    ⟨(some 59), .bin .and (.t 58) (.c (.p (.o (.int .i64 8192)))), none, 0⟩,
    ⟨(some 60), .bin .neq (.t 59) (.c (.p (.o (.int .i64 0)))), none, 0⟩,
    ⟨(some 61), .mv (.t 7), none, 0⟩,
    ⟨(some 62), .bin .and (.t 61) (.c (.p (.o (.int .i64 8191)))), none, 0⟩,
    ⟨(some 63), .bin .mul (.c (.p (.o (.int .i64 8)))) (.t 62), none, 0⟩,
    ⟨(some 64), .mv (.t 0), none, 0⟩,
    ⟨(some 65), .ixs (.t 64) (.c (.p (.o (.int .i64 8)))), none, 0⟩,
    ⟨(some 66), .mv (.t 0), none, 0⟩,
    ⟨(some 67), .ixs (.t 66) (.c (.p (.o (.int .i64 9)))), none, 0⟩,
    ⟨(some 68), .mv (.t 0), none, 0⟩,
    ⟨(some 69), .call 70 [(.t 68), (.c (.p (.o (.int .i64 12))))] 0, none, 0⟩,
    ⟨(some 70), .mv (.t 0), none, 0⟩,
    ⟨(some 71), .call 70 [(.t 70), (.c (.p (.o (.int .i64 16))))] 0, none, 0⟩,
    ⟨(some 72), .mv (.t 0), none, 0⟩,
    ⟨(some 73), .mv (.t 5), none, 0⟩,
    ⟨(some 74), .sls (.t 72) (some (.c (.p (.o (.int .i64 20))))) (some (.t 73)), none, 0⟩,
    ⟨(some 75), .bld [.int .u8 0, .int .u16 0, .bool false, .bool false, .int .i64 0, .int .u8 0, .int .u8 0, .int .u32 0, .int .u32 0, .str ⟨#[]⟩] [(0, 1, (.t 51)), (1, 1, (.t 54)), (2, 1, (.t 57)), (3, 1, (.t 60)), (4, 1, (.t 63)), (5, 1, (.t 65)), (6, 1, (.t 67)), (7, 1, (.t 69)), (8, 1, (.t 71)), (9, 1, (.t 74))], none, 0⟩,
    ⟨(some 8), .new [.int .u8 0, .int .u16 0, .bool false, .bool false, .int .i64 0, .int .u8 0, .int .u8 0, .int .u32 0, .int .u32 0, .str ⟨#[]⟩], none, 0⟩,
    ⟨none, .st 10 (.t 8) (.t 75), none, 1⟩] 1 (some [(0, 2), (1, 2), (0, 3), (1, 3), (0, 4), (1, 4), (0, 5), (1, 5), (2, 5), (3, 5), (4, 5), (0, 6), (1, 6), (2, 6), (3, 6), (4, 6), (0, 7), (1, 7), (2, 7), (3, 7), (4, 7), (0, 8), (1, 8), (2, 8), (3, 8), (4, 8), (5, 8), (6, 8), (7, 8), (0, 9), (1, 9), (2, 9), (3, 9), (4, 9), (5, 9), (6, 9), (7, 9), (0, 10), (1, 10), (2, 10), (3, 10), (4, 10), (5, 10), (6, 10), (7, 10), (0, 11), (1, 11), (2, 11), (3, 11), (4, 11), (5, 11), (6, 11), (7, 11), (8, 11), (9, 11), (10, 11), (0, 12), (1, 12), (2, 12), (3, 12), (4, 12), (5, 12), (6, 12), (7, 12), (8, 12), (9, 12), (10, 12), (0, 13), (1, 13), (2, 13), (3, 13), (4, 13), (5, 13), (6, 13), (7, 13), (8, 13), (9, 13), (10, 13), (0, 14), (1, 14), (2, 14), (3, 14), (4, 14), (5, 14), (6, 14), (7, 14), (8, 14), (9, 14), (10, 14), (11, 14), (12, 14), (13, 14), (0, 15), (1, 15), (2, 15), (3, 15), (4, 15), (5, 15), (6, 15), (7, 15), (8, 15), (9, 15), (10, 15), (11, 15), (12, 15), (13, 15), (0, 16), (1, 16), (2, 16), (3, 16), (4, 16), (5, 16), (6, 16), (7, 16), (8, 16), (9, 16), (10, 16), (11, 16), (12, 16), (13, 16), (14, 16), (15, 16), (0, 17), (1, 17), (2, 17), (3, 17), (4, 17), (5, 17), (6, 17), (7, 17), (8, 17), (9, 17), (10, 17), (11, 17), (12, 17), (13, 17), (14, 17), (15, 17), (0, 18), (1, 18), (2, 18), (3, 18), (4, 18), (5, 18), (6, 18), (7, 18), (8, 18), (9, 18), (10, 18), (11, 18), (12, 18), (13, 18), (14, 18), (15, 18), (16, 18), (17, 18), (0, 19), (1, 19), (4, 19), (5, 19), (6, 19), (7, 19), (8, 19), (9, 19), (10, 19), (11, 19), (12, 19), (13, 19), (14, 19), (15, 19), (16, 19), (17, 19), (0, 20), (1, 20), (2, 20), (3, 20), (4, 20), (5, 20), (6, 20), (7, 20), (8, 20), (9, 20), (10, 20), (11, 20), (12, 20), (13, 20), (14, 20), (15, 20), (16, 20), (17, 20), (18, 20), (19, 20), (0, 21), (1, 21), (4, 21), (5, 21), (6, 21), (7, 21), (8, 21), (9, 21), (10, 21), (11, 21), (12, 21), (13, 21), (14, 21), (15, 21), (16, 21), (17, 21), (0, 22), (1, 22), (2, 22), (3, 22), (4, 22), (5, 22), (6, 22), (7, 22), (8, 22), (9, 22), (10, 22), (11, 22), (12, 22), (13, 22), (14, 22), (15, 22), (16, 22), (17, 22), (18, 22), (19, 22), (20, 22), (21, 22), (0, 23), (1, 23), (2, 23), (3, 23), (4, 23), (5, 23), (6, 23), (7, 23), (8, 23), (9, 23), (10, 23), (11, 23), (12, 23), (13, 23), (14, 23), (15, 23), (16, 23), (17, 23), (18, 23), (19, 23), (20, 23), (21, 23), (22, 23), (0, 24), (1, 24), (2, 24), (3, 24), (4, 24), (5, 24), (6, 24), (7, 24), (8, 24), (9, 24), (10, 24), (11, 24), (12, 24), (13, 24), (14, 24), (15, 24), (16, 24), (17, 24), (18, 24), (19, 24), (20, 24), (21, 24), (0, 26), (1, 26), (2, 26), (3, 26), (4, 26), (5, 26), (6, 26), (7, 26), (8, 26), (9, 26), (10, 26), (11, 26), (12, 26), (13, 26), (14, 26), (15, 26), (16, 26), (17, 26), (18, 26), (19, 26), (20, 26), (21, 26), (22, 26), (23, 26), (24, 26), (25, 26)])) (.seq (.seq (.reg [
    ⟨(some 76), .mv (.t 7), none, 0⟩,
    ⟨(some 77), .bin .geq (.t 76) (.c (.p (.o (.int .i64 32768)))), none, 0⟩,
    ⟨(some 78), .mv (.t 77), none, 0⟩,
    ⟨(some 79), .ld (some 10) (.t 8), (some (78, false)), 0⟩,
    ⟨(some 80), .mv (.t 6), (some (78, false)), 0⟩,
    ⟨(some 81), .mv (.t 5), (some (78, false)), 0⟩,
    ⟨(some 82), .bin .sub (.t 80) (.t 81), (some (78, false)), 0⟩,
    ⟨(some 83), .call 63 [(.t 79), (.t 82)] 0, (some (78, false)), 0⟩,
    ⟨(some 84), .un .not (.t 83), (some (78, false)), 0⟩,
    ⟨(some 85), .pick (.t 78) (.c (.p (.o (.bool true)))) (.t 84), none, 0⟩,
    ⟨(some 86), .mv (.t 85), none, 0⟩,
    ⟨(some 87), .ld (some 10) (.t 8), (some (86, false)), 0⟩,
    ⟨(some 88), .mv (.t 6), (some (86, false)), 0⟩,
    ⟨(some 89), .mv (.t 5), (some (86, false)), 0⟩,
    ⟨(some 90), .bin .sub (.t 88) (.t 89), (some (86, false)), 0⟩,
    ⟨(some 91), .call 64 [(.t 87), (.t 90)] 0, (some (86, false)), 0⟩,
    ⟨(some 92), .un .not (.t 91), (some (86, false)), 0⟩,
    ⟨(some 93), .pick (.t 86) (.c (.p (.o (.bool true)))) (.t 92), none, 0⟩] 0 none) (.cond (.t 93) (.seq (.reg [
    ⟨(some 94), .bld [.int .u8 0, .int .u16 0, .bool false, .bool false, .int .i64 0, .int .u8 0, .int .u8 0, .int .u32 0, .int .u32 0, .str ⟨#[]⟩] [], none, 0⟩,
    ⟨none, .st 10 (.t 2) (.t 94), none, 0⟩,
    ⟨(some 3), .mv (.c (.p (.o (.str ⟨#[]⟩)))), none, 0⟩,
    ⟨(some 4), .mv (.c (.p (.o (.int .i64 8)))), none, 0⟩] 0 none) .ret) .skip)) (.seq (.reg [
    ⟨(some 95), .ld (some 10) (.t 8), none, 0⟩,
    ⟨(some 96), .mv (.t 0), none, 0⟩,
    ⟨(some 97), .mv (.t 5), none, 0⟩,
    ⟨(some 98), .mv (.t 6), none, 0⟩,
    ⟨(some 99), .sls (.t 96) (some (.t 97)) (some (.t 98)), none, 0⟩,
    ⟨none, .st 10 (.t 2) (.t 95), none, 0⟩,
    ⟨(some 3), .mv (.t 99), none, 0⟩,
    ⟨(some 4), .mv (.c (.p (.o (.int .i64 0)))), none, 0⟩] 0 (some [(0, 1), (0, 2), (1, 2), (0, 3), (1, 3), (2, 3), (0, 4), (1, 5), (2, 5), (3, 5), (4, 5)])) .ret)))))))))))))),
  [.cell 2 (some 10), .tmp 3, .tmp 4], 100, [0, 2, 3, 4, 5, 6, 7, 8]⟩
theorem ok_ref10_Decode : cFn Try.prog eqsT newsT vf_ref10_Decode.keep Try.f30 = some vf_ref10_Decode := by kernel_rfl
abbrev hdr (tos id : Int) (hold more : Bool) (at_ ttl proto fr to : Int) (o : ByteArray) : List SV := [.int .u8 tos, .int .u16 id, .bool hold, .bool more, .int .i64 at_, .int .u8 ttl, .int .u8 proto, .int .u32 fr, .int .u32 to, .str o]
def may10 (at_ : Int) (o : ByteArray) : Bool := decide (0 ≤ at_ ∧ at_ ≤ 65528 ∧ at_ % 8 = 0 ∧ (o.size : Int) ≤ 40 ∧ (o.size : Int) % 4 = 0)
def whole10 (more : Bool) (n : Int) : Bool := !more || decide (0 < n ∧ n % 8 = 0)
def fits10 (at_ n : Int) (o : ByteArray) : Bool := decide (at_ + n ≤ 65515 - o.size)
theorem may10_bd {at_ : Int} {o : ByteArray} (h : may10 at_ o = true) : 0 ≤ at_ ∧ at_ ≤ 65528 ∧ at_ % 8 = 0 ∧ (o.size : Int) ≤ 40 ∧ (o.size : Int) % 4 = 0 := of_decide_eq_true h
theorem vB_d {b : Bool} {p : Prop} [Decidable p] (h : p ↔ b = true) : vB b = vB (decide p) := by
  cases b with
  | true => rw [decide_eq_true (h.2 rfl)]
  | false => rw [decide_eq_false (fun e => by have := h.1 e; cases this)]
theorem vB_t {p : Prop} [Decidable p] (h : p) : vB true = vB (decide p) := by rw [decide_eq_true h]
theorem vB_f {p : Prop} [Decidable p] (h : ¬ p) : vB false = vB (decide p) := by rw [decide_eq_false h]
theorem vB_p {p q : Prop} [Decidable p] [Decidable q] (h : p ↔ q) : vB (decide q) = vB (decide p) := by rw [show decide q = decide p from decide_eq_decide.2 h.symm]
theorem vB_te {a c : Int} {p : Prop} [Decidable p] (h : p ↔ a = c) : vB (a == c) = vB (decide p) := vB_d (h.trans beq_iff_eq.symm) |>.trans rfl
theorem vB_tm {a n c : Int} {p : Prop} [Decidable p] (h0 : 0 ≤ a) (h : p ↔ a % n = c) : vB (a.tmod n == c) = vB (decide p) := by rw [Int.tmod_eq_emod_of_nonneg h0]; exact vB_te h
set_option maxHeartbeats 1000000 in
theorem may_det (tos id : Int) (hold more : Bool) (at_ ttl proto fr to : Int) (o : ByteArray) (ho : o.size ≤ 1000000) : Det Try.prog 31 [.a (hdr tos id hold more at_ ttl proto fr to o)] [] (vB (may10 at_ o)) [] := by
  refine can_of_W known mix Try.func31 (by kernel_rfl) ok_ip4_May (Nat.le_of_ble_eq_true rfl) ?_
  repeat' ((conv => whnf); first
    | ((with_reducible refine Look.mk ?_); refine ⟨_, rfl, ?_⟩)
    | ((with_reducible refine LookN.zeros ?_))
    | ((with_reducible refine LookN.bytes ?_ ?_); (simp; done))
    | ((with_reducible refine BytesW.bytes ?_))
    | ((with_reducible refine Look.byte ?_ ?_); omega)
    | ((with_reducible refine Look.setb ?_ ?_ ?_); exact bv8_bd _; omega)
    | ((with_reducible refine LookN.setb ?_ ?_ ?_); exact bv8_bd _; omega)
    | ((with_reducible refine LookN.mk ?_); refine ⟨_, rfl, ?_⟩)
    | ((with_reducible refine Need.mk ?_ ?_); first | ((with_reducible refine needB ?_); kernel_rfl) | exact rfl | trivial | omega | exact Nat.le_of_ble_eq_true rfl | (exact ⟨rfl, by omega⟩) | (intro h; first | rfl | cases h) | (simp only [lenS_text, lenS_setN, lenS_zeros]; omega) | (simp only [ByteArray.size_append, size_lit, List.size_toArray, List.length_cons, List.length_nil, Sp.ofB_size]; omega))
    | ((with_reducible refine BytesW.mk ?_); refine ⟨_, rfl, ?_⟩)
    | ((with_reducible refine Test.tmodEqT ?_ ?_ ?_); omega; focus omega)
    | ((with_reducible refine Test.tmodEqF ?_ ?_ ?_); omega; focus omega)
    | ((with_reducible refine Test.tmodNeT ?_ ?_ ?_); omega; focus omega)
    | ((with_reducible refine Test.tmodNeF ?_ ?_ ?_); omega; focus omega)
    | ((with_reducible refine Test.tmodEq ?_ (fun h => ?_) (fun h => ?_)); omega)
    | ((with_reducible refine Test.tmodNe ?_ (fun h => ?_) (fun h => ?_)); omega)
    | (with_reducible refine Test.shru8_4 (fun h => ?_) (fun h => ?_))
    | (with_reducible refine Test.shreu8_4 (fun h => ?_) (fun h => ?_))
    | ((with_reducible refine Test.notT ?_ ?_); focus assumption)
    | ((with_reducible refine Test.notF ?_ ?_); focus assumption)
    | (with_reducible refine Test.notIe (fun h => ?_) (fun h => ?_))
    | (with_reducible refine Test.notD (fun h => ?_) (fun h => ?_))
    | ((with_reducible refine Test.empty (fun h => ?_) (fun h => ?_)))
    | (with_reducible refine Test.tt ?_)
    | (with_reducible refine Test.ff ?_)
    | ((with_reducible refine Test.dt ?_ ?_); omega)
    | ((with_reducible refine Test.df ?_ ?_); omega)
    | (with_reducible refine Test.d (fun h => ?_) (fun h => ?_))
    | ((with_reducible refine Test.ieT ?_ ?_); omega)
    | ((with_reducible refine Test.ieF ?_ ?_); omega)
    | ((with_reducible refine Test.neT ?_ ?_); omega)
    | ((with_reducible refine Test.neF ?_ ?_); omega)
    | (with_reducible refine Test.ie (fun h => ?_) (fun h => ?_))
    | (with_reducible refine Test.ne (fun h => ?_) (fun h => ?_))
    | ((with_reducible refine Test.b ?_ ?_); (focus first | assumption | (simp [negB]; done) | exact rfl))
    | ((with_reducible refine Test.nb ?_ ?_); (focus first | assumption | (simp [negB]; done) | exact rfl))
    | (with_reducible refine Test.notS (fun h => ?_) (fun h => ?_))
    | (with_reducible refine Test.mk (fun h => ?_) (fun h => ?_))
    | ((with_reducible refine Arith.ori64_16384 ?_ ?_); omega)
    | ((with_reducible refine Arith.ori64_8192 ?_ ?_); omega)
    | ((with_reducible refine Arith.holdmore ?_ ?_); omega)
    | ((with_reducible refine Arith.ori64_64' ?_ ?_); omega)
    | ((with_reducible refine Arith.andu8_15 ?_ ?_); omega)
    | ((with_reducible refine Arith.andi64_8191 ?_ ?_); omega)
    | ((with_reducible refine Arith.biti64_16384 ?_ ?_); omega)
    | ((with_reducible refine Arith.biti64_8192 ?_ ?_); omega)
    | ((with_reducible refine Arith.biti64_32768 ?_ ?_); omega)
    | ((with_reducible refine Arith.tdiv ?_ ?_); omega)
    | (with_reducible refine Arith.bv8 ?_)
    | (with_reducible refine Arith.bv16 ?_)
    | (with_reducible refine Arith.bv32 ?_)
    | (with_reducible refine Arith.bv64 ?_)
    | ((with_reducible refine Arith.i64 ?_ ?_); omega)
    | ((with_reducible refine Arith.u64 ?_ ?_); omega)
    | ((with_reducible refine Arith.u32 ?_ ?_); omega)
    | ((with_reducible refine Arith.u16 ?_ ?_); omega)
    | ((with_reducible refine Arith.u8 ?_ ?_); omega)
    | ((with_reducible refine Arith.i32 ?_ ?_); omega)
    | ((with_reducible refine Arith.i64 ?_ ?_); simp (discharger := omega) only [Int.tdiv_eq_ediv_of_nonneg, shr_u8_4, shl_u8_4, shr_u16_4, shl_u16_4, shr_u16_8, shl_u16_8, shr_u32_4, shl_u32_4, shr_u32_8, shl_u32_8, shr_u32_16, shl_u32_16, shr_u32_24, shl_u32_24, shr_u64_4, shl_u64_4, shr_u64_8, shl_u64_8, shr_u64_16, shl_u64_16, shr_u64_24, shl_u64_24, shr_u64_40, shl_u64_40, shr_i64_4, shl_i64_4, shr_i64_8, shl_i64_8, shr_i64_16, shl_i64_16, shr_i64_24, shl_i64_24, shr_i64_40, shl_i64_40]; omega)
    | ((with_reducible refine Arith.u64 ?_ ?_); simp (discharger := omega) only [Int.tdiv_eq_ediv_of_nonneg, shr_u8_4, shl_u8_4, shr_u16_4, shl_u16_4, shr_u16_8, shl_u16_8, shr_u32_4, shl_u32_4, shr_u32_8, shl_u32_8, shr_u32_16, shl_u32_16, shr_u32_24, shl_u32_24, shr_u64_4, shl_u64_4, shr_u64_8, shl_u64_8, shr_u64_16, shl_u64_16, shr_u64_24, shl_u64_24, shr_u64_40, shl_u64_40, shr_i64_4, shl_i64_4, shr_i64_8, shl_i64_8, shr_i64_16, shl_i64_16, shr_i64_24, shl_i64_24, shr_i64_40, shl_i64_40]; omega)
    | ((with_reducible refine Arith.u32 ?_ ?_); simp (discharger := omega) only [Int.tdiv_eq_ediv_of_nonneg, shr_u8_4, shl_u8_4, shr_u16_4, shl_u16_4, shr_u16_8, shl_u16_8, shr_u32_4, shl_u32_4, shr_u32_8, shl_u32_8, shr_u32_16, shl_u32_16, shr_u32_24, shl_u32_24, shr_u64_4, shl_u64_4, shr_u64_8, shl_u64_8, shr_u64_16, shl_u64_16, shr_u64_24, shl_u64_24, shr_u64_40, shl_u64_40, shr_i64_4, shl_i64_4, shr_i64_8, shl_i64_8, shr_i64_16, shl_i64_16, shr_i64_24, shl_i64_24, shr_i64_40, shl_i64_40]; omega)
    | ((with_reducible refine Arith.u16 ?_ ?_); simp (discharger := omega) only [Int.tdiv_eq_ediv_of_nonneg, shr_u8_4, shl_u8_4, shr_u16_4, shl_u16_4, shr_u16_8, shl_u16_8, shr_u32_4, shl_u32_4, shr_u32_8, shl_u32_8, shr_u32_16, shl_u32_16, shr_u32_24, shl_u32_24, shr_u64_4, shl_u64_4, shr_u64_8, shl_u64_8, shr_u64_16, shl_u64_16, shr_u64_24, shl_u64_24, shr_u64_40, shl_u64_40, shr_i64_4, shl_i64_4, shr_i64_8, shl_i64_8, shr_i64_16, shl_i64_16, shr_i64_24, shl_i64_24, shr_i64_40, shl_i64_40]; omega)
    | ((with_reducible refine Arith.u8 ?_ ?_); simp (discharger := omega) only [Int.tdiv_eq_ediv_of_nonneg, shr_u8_4, shl_u8_4, shr_u16_4, shl_u16_4, shr_u16_8, shl_u16_8, shr_u32_4, shl_u32_4, shr_u32_8, shl_u32_8, shr_u32_16, shl_u32_16, shr_u32_24, shl_u32_24, shr_u64_4, shl_u64_4, shr_u64_8, shl_u64_8, shr_u64_16, shl_u64_16, shr_u64_24, shl_u64_24, shr_u64_40, shl_u64_40, shr_i64_4, shl_i64_4, shr_i64_8, shl_i64_8, shr_i64_16, shl_i64_16, shr_i64_24, shl_i64_24, shr_i64_40, shl_i64_40]; omega)
    | (with_reducible refine Arith.mk ?_)
    | (with_reducible refine Ends.mk ?_))
  all_goals first | (refine ⟨vB_t (by omega), rfl⟩) | (refine ⟨vB_f (by omega), rfl⟩) | (refine ⟨vB_tm (by omega) (by omega), rfl⟩) | (refine ⟨vB_te (by omega), rfl⟩) | (refine ⟨vB_p (by omega), rfl⟩)
set_option maxHeartbeats 1000000 in
theorem whole_t (tos id : Int) (hold : Bool) (at_ ttl proto fr to : Int) (o : ByteArray) (n : Int) (hn : 0 ≤ n) : Det Try.prog 61 [.a (hdr tos id hold true at_ ttl proto fr to o), .o (.int .i64 n)] [] (vB (decide (0 < n ∧ n % 8 = 0))) [] := by
  refine can_of_W known mix Try.func61 (by kernel_rfl) ok_ip4_whole (Nat.le_of_ble_eq_true rfl) ?_
  repeat' ((conv => whnf); first
    | ((with_reducible refine Look.mk ?_); refine ⟨_, rfl, ?_⟩)
    | ((with_reducible refine LookN.zeros ?_))
    | ((with_reducible refine LookN.bytes ?_ ?_); (simp; done))
    | ((with_reducible refine BytesW.bytes ?_))
    | ((with_reducible refine Look.byte ?_ ?_); omega)
    | ((with_reducible refine Look.setb ?_ ?_ ?_); exact bv8_bd _; omega)
    | ((with_reducible refine LookN.setb ?_ ?_ ?_); exact bv8_bd _; omega)
    | ((with_reducible refine LookN.mk ?_); refine ⟨_, rfl, ?_⟩)
    | ((with_reducible refine Need.mk ?_ ?_); first | ((with_reducible refine needB ?_); kernel_rfl) | exact rfl | trivial | omega | exact Nat.le_of_ble_eq_true rfl | (exact ⟨rfl, by omega⟩) | (intro h; first | rfl | cases h) | (simp only [lenS_text, lenS_setN, lenS_zeros]; omega) | (simp only [ByteArray.size_append, size_lit, List.size_toArray, List.length_cons, List.length_nil, Sp.ofB_size]; omega))
    | ((with_reducible refine BytesW.mk ?_); refine ⟨_, rfl, ?_⟩)
    | ((with_reducible refine Test.tmodEqT ?_ ?_ ?_); omega; focus omega)
    | ((with_reducible refine Test.tmodEqF ?_ ?_ ?_); omega; focus omega)
    | ((with_reducible refine Test.tmodNeT ?_ ?_ ?_); omega; focus omega)
    | ((with_reducible refine Test.tmodNeF ?_ ?_ ?_); omega; focus omega)
    | ((with_reducible refine Test.tmodEq ?_ (fun h => ?_) (fun h => ?_)); omega)
    | ((with_reducible refine Test.tmodNe ?_ (fun h => ?_) (fun h => ?_)); omega)
    | (with_reducible refine Test.shru8_4 (fun h => ?_) (fun h => ?_))
    | (with_reducible refine Test.shreu8_4 (fun h => ?_) (fun h => ?_))
    | ((with_reducible refine Test.notT ?_ ?_); focus assumption)
    | ((with_reducible refine Test.notF ?_ ?_); focus assumption)
    | (with_reducible refine Test.notIe (fun h => ?_) (fun h => ?_))
    | (with_reducible refine Test.notD (fun h => ?_) (fun h => ?_))
    | ((with_reducible refine Test.empty (fun h => ?_) (fun h => ?_)))
    | (with_reducible refine Test.tt ?_)
    | (with_reducible refine Test.ff ?_)
    | ((with_reducible refine Test.dt ?_ ?_); omega)
    | ((with_reducible refine Test.df ?_ ?_); omega)
    | (with_reducible refine Test.d (fun h => ?_) (fun h => ?_))
    | ((with_reducible refine Test.ieT ?_ ?_); omega)
    | ((with_reducible refine Test.ieF ?_ ?_); omega)
    | ((with_reducible refine Test.neT ?_ ?_); omega)
    | ((with_reducible refine Test.neF ?_ ?_); omega)
    | (with_reducible refine Test.ie (fun h => ?_) (fun h => ?_))
    | (with_reducible refine Test.ne (fun h => ?_) (fun h => ?_))
    | ((with_reducible refine Test.b ?_ ?_); (focus first | assumption | (simp [negB]; done) | exact rfl))
    | ((with_reducible refine Test.nb ?_ ?_); (focus first | assumption | (simp [negB]; done) | exact rfl))
    | (with_reducible refine Test.notS (fun h => ?_) (fun h => ?_))
    | (with_reducible refine Test.mk (fun h => ?_) (fun h => ?_))
    | ((with_reducible refine Arith.ori64_16384 ?_ ?_); omega)
    | ((with_reducible refine Arith.ori64_8192 ?_ ?_); omega)
    | ((with_reducible refine Arith.holdmore ?_ ?_); omega)
    | ((with_reducible refine Arith.ori64_64' ?_ ?_); omega)
    | ((with_reducible refine Arith.andu8_15 ?_ ?_); omega)
    | ((with_reducible refine Arith.andi64_8191 ?_ ?_); omega)
    | ((with_reducible refine Arith.biti64_16384 ?_ ?_); omega)
    | ((with_reducible refine Arith.biti64_8192 ?_ ?_); omega)
    | ((with_reducible refine Arith.biti64_32768 ?_ ?_); omega)
    | ((with_reducible refine Arith.tdiv ?_ ?_); omega)
    | (with_reducible refine Arith.bv8 ?_)
    | (with_reducible refine Arith.bv16 ?_)
    | (with_reducible refine Arith.bv32 ?_)
    | (with_reducible refine Arith.bv64 ?_)
    | ((with_reducible refine Arith.i64 ?_ ?_); omega)
    | ((with_reducible refine Arith.u64 ?_ ?_); omega)
    | ((with_reducible refine Arith.u32 ?_ ?_); omega)
    | ((with_reducible refine Arith.u16 ?_ ?_); omega)
    | ((with_reducible refine Arith.u8 ?_ ?_); omega)
    | ((with_reducible refine Arith.i32 ?_ ?_); omega)
    | ((with_reducible refine Arith.i64 ?_ ?_); simp (discharger := omega) only [Int.tdiv_eq_ediv_of_nonneg, shr_u8_4, shl_u8_4, shr_u16_4, shl_u16_4, shr_u16_8, shl_u16_8, shr_u32_4, shl_u32_4, shr_u32_8, shl_u32_8, shr_u32_16, shl_u32_16, shr_u32_24, shl_u32_24, shr_u64_4, shl_u64_4, shr_u64_8, shl_u64_8, shr_u64_16, shl_u64_16, shr_u64_24, shl_u64_24, shr_u64_40, shl_u64_40, shr_i64_4, shl_i64_4, shr_i64_8, shl_i64_8, shr_i64_16, shl_i64_16, shr_i64_24, shl_i64_24, shr_i64_40, shl_i64_40]; omega)
    | ((with_reducible refine Arith.u64 ?_ ?_); simp (discharger := omega) only [Int.tdiv_eq_ediv_of_nonneg, shr_u8_4, shl_u8_4, shr_u16_4, shl_u16_4, shr_u16_8, shl_u16_8, shr_u32_4, shl_u32_4, shr_u32_8, shl_u32_8, shr_u32_16, shl_u32_16, shr_u32_24, shl_u32_24, shr_u64_4, shl_u64_4, shr_u64_8, shl_u64_8, shr_u64_16, shl_u64_16, shr_u64_24, shl_u64_24, shr_u64_40, shl_u64_40, shr_i64_4, shl_i64_4, shr_i64_8, shl_i64_8, shr_i64_16, shl_i64_16, shr_i64_24, shl_i64_24, shr_i64_40, shl_i64_40]; omega)
    | ((with_reducible refine Arith.u32 ?_ ?_); simp (discharger := omega) only [Int.tdiv_eq_ediv_of_nonneg, shr_u8_4, shl_u8_4, shr_u16_4, shl_u16_4, shr_u16_8, shl_u16_8, shr_u32_4, shl_u32_4, shr_u32_8, shl_u32_8, shr_u32_16, shl_u32_16, shr_u32_24, shl_u32_24, shr_u64_4, shl_u64_4, shr_u64_8, shl_u64_8, shr_u64_16, shl_u64_16, shr_u64_24, shl_u64_24, shr_u64_40, shl_u64_40, shr_i64_4, shl_i64_4, shr_i64_8, shl_i64_8, shr_i64_16, shl_i64_16, shr_i64_24, shl_i64_24, shr_i64_40, shl_i64_40]; omega)
    | ((with_reducible refine Arith.u16 ?_ ?_); simp (discharger := omega) only [Int.tdiv_eq_ediv_of_nonneg, shr_u8_4, shl_u8_4, shr_u16_4, shl_u16_4, shr_u16_8, shl_u16_8, shr_u32_4, shl_u32_4, shr_u32_8, shl_u32_8, shr_u32_16, shl_u32_16, shr_u32_24, shl_u32_24, shr_u64_4, shl_u64_4, shr_u64_8, shl_u64_8, shr_u64_16, shl_u64_16, shr_u64_24, shl_u64_24, shr_u64_40, shl_u64_40, shr_i64_4, shl_i64_4, shr_i64_8, shl_i64_8, shr_i64_16, shl_i64_16, shr_i64_24, shl_i64_24, shr_i64_40, shl_i64_40]; omega)
    | ((with_reducible refine Arith.u8 ?_ ?_); simp (discharger := omega) only [Int.tdiv_eq_ediv_of_nonneg, shr_u8_4, shl_u8_4, shr_u16_4, shl_u16_4, shr_u16_8, shl_u16_8, shr_u32_4, shl_u32_4, shr_u32_8, shl_u32_8, shr_u32_16, shl_u32_16, shr_u32_24, shl_u32_24, shr_u64_4, shl_u64_4, shr_u64_8, shl_u64_8, shr_u64_16, shl_u64_16, shr_u64_24, shl_u64_24, shr_u64_40, shl_u64_40, shr_i64_4, shl_i64_4, shr_i64_8, shl_i64_8, shr_i64_16, shl_i64_16, shr_i64_24, shl_i64_24, shr_i64_40, shl_i64_40]; omega)
    | (with_reducible refine Arith.mk ?_)
    | (with_reducible refine Ends.mk ?_))
  all_goals first | (refine ⟨vB_t (by omega), rfl⟩) | (refine ⟨vB_f (by omega), rfl⟩) | (refine ⟨vB_tm (by omega) (by omega), rfl⟩) | (refine ⟨vB_te (by omega), rfl⟩) | (refine ⟨vB_p (by omega), rfl⟩)
set_option maxHeartbeats 1000000 in
theorem whole_f (tos id : Int) (hold : Bool) (at_ ttl proto fr to : Int) (o : ByteArray) (n : Int) : Det Try.prog 61 [.a (hdr tos id hold false at_ ttl proto fr to o), .o (.int .i64 n)] [] (vB true) [] := by
  refine can_of_W known mix Try.func61 (by kernel_rfl) ok_ip4_whole (Nat.le_of_ble_eq_true rfl) ?_
  repeat' ((conv => whnf); first
    | ((with_reducible refine Look.mk ?_); refine ⟨_, rfl, ?_⟩)
    | ((with_reducible refine LookN.zeros ?_))
    | ((with_reducible refine LookN.bytes ?_ ?_); (simp; done))
    | ((with_reducible refine BytesW.bytes ?_))
    | ((with_reducible refine Look.byte ?_ ?_); omega)
    | ((with_reducible refine Look.setb ?_ ?_ ?_); exact bv8_bd _; omega)
    | ((with_reducible refine LookN.setb ?_ ?_ ?_); exact bv8_bd _; omega)
    | ((with_reducible refine LookN.mk ?_); refine ⟨_, rfl, ?_⟩)
    | ((with_reducible refine Need.mk ?_ ?_); first | ((with_reducible refine needB ?_); kernel_rfl) | exact rfl | trivial | omega | exact Nat.le_of_ble_eq_true rfl | (exact ⟨rfl, by omega⟩) | (intro h; first | rfl | cases h) | (simp only [lenS_text, lenS_setN, lenS_zeros]; omega) | (simp only [ByteArray.size_append, size_lit, List.size_toArray, List.length_cons, List.length_nil, Sp.ofB_size]; omega))
    | ((with_reducible refine BytesW.mk ?_); refine ⟨_, rfl, ?_⟩)
    | ((with_reducible refine Test.tmodEqT ?_ ?_ ?_); omega; focus omega)
    | ((with_reducible refine Test.tmodEqF ?_ ?_ ?_); omega; focus omega)
    | ((with_reducible refine Test.tmodNeT ?_ ?_ ?_); omega; focus omega)
    | ((with_reducible refine Test.tmodNeF ?_ ?_ ?_); omega; focus omega)
    | ((with_reducible refine Test.tmodEq ?_ (fun h => ?_) (fun h => ?_)); omega)
    | ((with_reducible refine Test.tmodNe ?_ (fun h => ?_) (fun h => ?_)); omega)
    | (with_reducible refine Test.shru8_4 (fun h => ?_) (fun h => ?_))
    | (with_reducible refine Test.shreu8_4 (fun h => ?_) (fun h => ?_))
    | ((with_reducible refine Test.notT ?_ ?_); focus assumption)
    | ((with_reducible refine Test.notF ?_ ?_); focus assumption)
    | (with_reducible refine Test.notIe (fun h => ?_) (fun h => ?_))
    | (with_reducible refine Test.notD (fun h => ?_) (fun h => ?_))
    | ((with_reducible refine Test.empty (fun h => ?_) (fun h => ?_)))
    | (with_reducible refine Test.tt ?_)
    | (with_reducible refine Test.ff ?_)
    | ((with_reducible refine Test.dt ?_ ?_); omega)
    | ((with_reducible refine Test.df ?_ ?_); omega)
    | (with_reducible refine Test.d (fun h => ?_) (fun h => ?_))
    | ((with_reducible refine Test.ieT ?_ ?_); omega)
    | ((with_reducible refine Test.ieF ?_ ?_); omega)
    | ((with_reducible refine Test.neT ?_ ?_); omega)
    | ((with_reducible refine Test.neF ?_ ?_); omega)
    | (with_reducible refine Test.ie (fun h => ?_) (fun h => ?_))
    | (with_reducible refine Test.ne (fun h => ?_) (fun h => ?_))
    | ((with_reducible refine Test.b ?_ ?_); (focus first | assumption | (simp [negB]; done) | exact rfl))
    | ((with_reducible refine Test.nb ?_ ?_); (focus first | assumption | (simp [negB]; done) | exact rfl))
    | (with_reducible refine Test.notS (fun h => ?_) (fun h => ?_))
    | (with_reducible refine Test.mk (fun h => ?_) (fun h => ?_))
    | ((with_reducible refine Arith.ori64_16384 ?_ ?_); omega)
    | ((with_reducible refine Arith.ori64_8192 ?_ ?_); omega)
    | ((with_reducible refine Arith.holdmore ?_ ?_); omega)
    | ((with_reducible refine Arith.ori64_64' ?_ ?_); omega)
    | ((with_reducible refine Arith.andu8_15 ?_ ?_); omega)
    | ((with_reducible refine Arith.andi64_8191 ?_ ?_); omega)
    | ((with_reducible refine Arith.biti64_16384 ?_ ?_); omega)
    | ((with_reducible refine Arith.biti64_8192 ?_ ?_); omega)
    | ((with_reducible refine Arith.biti64_32768 ?_ ?_); omega)
    | ((with_reducible refine Arith.tdiv ?_ ?_); omega)
    | (with_reducible refine Arith.bv8 ?_)
    | (with_reducible refine Arith.bv16 ?_)
    | (with_reducible refine Arith.bv32 ?_)
    | (with_reducible refine Arith.bv64 ?_)
    | ((with_reducible refine Arith.i64 ?_ ?_); omega)
    | ((with_reducible refine Arith.u64 ?_ ?_); omega)
    | ((with_reducible refine Arith.u32 ?_ ?_); omega)
    | ((with_reducible refine Arith.u16 ?_ ?_); omega)
    | ((with_reducible refine Arith.u8 ?_ ?_); omega)
    | ((with_reducible refine Arith.i32 ?_ ?_); omega)
    | ((with_reducible refine Arith.i64 ?_ ?_); simp (discharger := omega) only [Int.tdiv_eq_ediv_of_nonneg, shr_u8_4, shl_u8_4, shr_u16_4, shl_u16_4, shr_u16_8, shl_u16_8, shr_u32_4, shl_u32_4, shr_u32_8, shl_u32_8, shr_u32_16, shl_u32_16, shr_u32_24, shl_u32_24, shr_u64_4, shl_u64_4, shr_u64_8, shl_u64_8, shr_u64_16, shl_u64_16, shr_u64_24, shl_u64_24, shr_u64_40, shl_u64_40, shr_i64_4, shl_i64_4, shr_i64_8, shl_i64_8, shr_i64_16, shl_i64_16, shr_i64_24, shl_i64_24, shr_i64_40, shl_i64_40]; omega)
    | ((with_reducible refine Arith.u64 ?_ ?_); simp (discharger := omega) only [Int.tdiv_eq_ediv_of_nonneg, shr_u8_4, shl_u8_4, shr_u16_4, shl_u16_4, shr_u16_8, shl_u16_8, shr_u32_4, shl_u32_4, shr_u32_8, shl_u32_8, shr_u32_16, shl_u32_16, shr_u32_24, shl_u32_24, shr_u64_4, shl_u64_4, shr_u64_8, shl_u64_8, shr_u64_16, shl_u64_16, shr_u64_24, shl_u64_24, shr_u64_40, shl_u64_40, shr_i64_4, shl_i64_4, shr_i64_8, shl_i64_8, shr_i64_16, shl_i64_16, shr_i64_24, shl_i64_24, shr_i64_40, shl_i64_40]; omega)
    | ((with_reducible refine Arith.u32 ?_ ?_); simp (discharger := omega) only [Int.tdiv_eq_ediv_of_nonneg, shr_u8_4, shl_u8_4, shr_u16_4, shl_u16_4, shr_u16_8, shl_u16_8, shr_u32_4, shl_u32_4, shr_u32_8, shl_u32_8, shr_u32_16, shl_u32_16, shr_u32_24, shl_u32_24, shr_u64_4, shl_u64_4, shr_u64_8, shl_u64_8, shr_u64_16, shl_u64_16, shr_u64_24, shl_u64_24, shr_u64_40, shl_u64_40, shr_i64_4, shl_i64_4, shr_i64_8, shl_i64_8, shr_i64_16, shl_i64_16, shr_i64_24, shl_i64_24, shr_i64_40, shl_i64_40]; omega)
    | ((with_reducible refine Arith.u16 ?_ ?_); simp (discharger := omega) only [Int.tdiv_eq_ediv_of_nonneg, shr_u8_4, shl_u8_4, shr_u16_4, shl_u16_4, shr_u16_8, shl_u16_8, shr_u32_4, shl_u32_4, shr_u32_8, shl_u32_8, shr_u32_16, shl_u32_16, shr_u32_24, shl_u32_24, shr_u64_4, shl_u64_4, shr_u64_8, shl_u64_8, shr_u64_16, shl_u64_16, shr_u64_24, shl_u64_24, shr_u64_40, shl_u64_40, shr_i64_4, shl_i64_4, shr_i64_8, shl_i64_8, shr_i64_16, shl_i64_16, shr_i64_24, shl_i64_24, shr_i64_40, shl_i64_40]; omega)
    | ((with_reducible refine Arith.u8 ?_ ?_); simp (discharger := omega) only [Int.tdiv_eq_ediv_of_nonneg, shr_u8_4, shl_u8_4, shr_u16_4, shl_u16_4, shr_u16_8, shl_u16_8, shr_u32_4, shl_u32_4, shr_u32_8, shl_u32_8, shr_u32_16, shl_u32_16, shr_u32_24, shl_u32_24, shr_u64_4, shl_u64_4, shr_u64_8, shl_u64_8, shr_u64_16, shl_u64_16, shr_u64_24, shl_u64_24, shr_u64_40, shl_u64_40, shr_i64_4, shl_i64_4, shr_i64_8, shl_i64_8, shr_i64_16, shl_i64_16, shr_i64_24, shl_i64_24, shr_i64_40, shl_i64_40]; omega)
    | (with_reducible refine Arith.mk ?_)
    | (with_reducible refine Ends.mk ?_))
  all_goals first | exact ⟨rfl, rfl⟩ | (refine ⟨?_, rfl⟩; simp_all; done)
theorem whole_det (tos id : Int) (hold more : Bool) (at_ ttl proto fr to : Int) (o : ByteArray) (n : Int) (hn : 0 ≤ n) : Det Try.prog 61 [.a (hdr tos id hold more at_ ttl proto fr to o), .o (.int .i64 n)] [] (vB (whole10 more n)) [] := by
  cases more with
  | true => exact whole_t _ _ _ _ _ _ _ _ _ n hn
  | false => exact whole_f _ _ _ _ _ _ _ _ _ n
set_option maxHeartbeats 1000000 in
theorem fits_det (tos id : Int) (hold more : Bool) (at_ ttl proto fr to : Int) (o : ByteArray) (n : Int) (hn : 0 ≤ n ∧ n ≤ 1000000) (ha : 0 ≤ at_ ∧ at_ ≤ 1000000) (ho : o.size ≤ 1000000) : Det Try.prog 62 [.a (hdr tos id hold more at_ ttl proto fr to o), .o (.int .i64 n)] [] (vB (fits10 at_ n o)) [] := by
  refine can_of_W known mix Try.func62 (by kernel_rfl) ok_ip4_fits (Nat.le_of_ble_eq_true rfl) ?_
  repeat' ((conv => whnf); first
    | ((with_reducible refine Look.mk ?_); refine ⟨_, rfl, ?_⟩)
    | ((with_reducible refine LookN.zeros ?_))
    | ((with_reducible refine LookN.bytes ?_ ?_); (simp; done))
    | ((with_reducible refine BytesW.bytes ?_))
    | ((with_reducible refine Look.byte ?_ ?_); omega)
    | ((with_reducible refine Look.setb ?_ ?_ ?_); exact bv8_bd _; omega)
    | ((with_reducible refine LookN.setb ?_ ?_ ?_); exact bv8_bd _; omega)
    | ((with_reducible refine LookN.mk ?_); refine ⟨_, rfl, ?_⟩)
    | ((with_reducible refine Need.mk ?_ ?_); first | ((with_reducible refine needB ?_); kernel_rfl) | exact rfl | trivial | omega | exact Nat.le_of_ble_eq_true rfl | (exact ⟨rfl, by omega⟩) | (intro h; first | rfl | cases h) | (simp only [lenS_text, lenS_setN, lenS_zeros]; omega) | (simp only [ByteArray.size_append, size_lit, List.size_toArray, List.length_cons, List.length_nil, Sp.ofB_size]; omega))
    | ((with_reducible refine BytesW.mk ?_); refine ⟨_, rfl, ?_⟩)
    | ((with_reducible refine Test.tmodEqT ?_ ?_ ?_); omega; focus omega)
    | ((with_reducible refine Test.tmodEqF ?_ ?_ ?_); omega; focus omega)
    | ((with_reducible refine Test.tmodNeT ?_ ?_ ?_); omega; focus omega)
    | ((with_reducible refine Test.tmodNeF ?_ ?_ ?_); omega; focus omega)
    | ((with_reducible refine Test.tmodEq ?_ (fun h => ?_) (fun h => ?_)); omega)
    | ((with_reducible refine Test.tmodNe ?_ (fun h => ?_) (fun h => ?_)); omega)
    | (with_reducible refine Test.shru8_4 (fun h => ?_) (fun h => ?_))
    | (with_reducible refine Test.shreu8_4 (fun h => ?_) (fun h => ?_))
    | ((with_reducible refine Test.notT ?_ ?_); focus assumption)
    | ((with_reducible refine Test.notF ?_ ?_); focus assumption)
    | (with_reducible refine Test.notIe (fun h => ?_) (fun h => ?_))
    | (with_reducible refine Test.notD (fun h => ?_) (fun h => ?_))
    | ((with_reducible refine Test.empty (fun h => ?_) (fun h => ?_)))
    | (with_reducible refine Test.tt ?_)
    | (with_reducible refine Test.ff ?_)
    | ((with_reducible refine Test.dt ?_ ?_); omega)
    | ((with_reducible refine Test.df ?_ ?_); omega)
    | (with_reducible refine Test.d (fun h => ?_) (fun h => ?_))
    | ((with_reducible refine Test.ieT ?_ ?_); omega)
    | ((with_reducible refine Test.ieF ?_ ?_); omega)
    | ((with_reducible refine Test.neT ?_ ?_); omega)
    | ((with_reducible refine Test.neF ?_ ?_); omega)
    | (with_reducible refine Test.ie (fun h => ?_) (fun h => ?_))
    | (with_reducible refine Test.ne (fun h => ?_) (fun h => ?_))
    | ((with_reducible refine Test.b ?_ ?_); (focus first | assumption | (simp [negB]; done) | exact rfl))
    | ((with_reducible refine Test.nb ?_ ?_); (focus first | assumption | (simp [negB]; done) | exact rfl))
    | (with_reducible refine Test.notS (fun h => ?_) (fun h => ?_))
    | (with_reducible refine Test.mk (fun h => ?_) (fun h => ?_))
    | ((with_reducible refine Arith.ori64_16384 ?_ ?_); omega)
    | ((with_reducible refine Arith.ori64_8192 ?_ ?_); omega)
    | ((with_reducible refine Arith.holdmore ?_ ?_); omega)
    | ((with_reducible refine Arith.ori64_64' ?_ ?_); omega)
    | ((with_reducible refine Arith.andu8_15 ?_ ?_); omega)
    | ((with_reducible refine Arith.andi64_8191 ?_ ?_); omega)
    | ((with_reducible refine Arith.biti64_16384 ?_ ?_); omega)
    | ((with_reducible refine Arith.biti64_8192 ?_ ?_); omega)
    | ((with_reducible refine Arith.biti64_32768 ?_ ?_); omega)
    | ((with_reducible refine Arith.tdiv ?_ ?_); omega)
    | (with_reducible refine Arith.bv8 ?_)
    | (with_reducible refine Arith.bv16 ?_)
    | (with_reducible refine Arith.bv32 ?_)
    | (with_reducible refine Arith.bv64 ?_)
    | ((with_reducible refine Arith.i64 ?_ ?_); omega)
    | ((with_reducible refine Arith.u64 ?_ ?_); omega)
    | ((with_reducible refine Arith.u32 ?_ ?_); omega)
    | ((with_reducible refine Arith.u16 ?_ ?_); omega)
    | ((with_reducible refine Arith.u8 ?_ ?_); omega)
    | ((with_reducible refine Arith.i32 ?_ ?_); omega)
    | ((with_reducible refine Arith.i64 ?_ ?_); simp (discharger := omega) only [Int.tdiv_eq_ediv_of_nonneg, shr_u8_4, shl_u8_4, shr_u16_4, shl_u16_4, shr_u16_8, shl_u16_8, shr_u32_4, shl_u32_4, shr_u32_8, shl_u32_8, shr_u32_16, shl_u32_16, shr_u32_24, shl_u32_24, shr_u64_4, shl_u64_4, shr_u64_8, shl_u64_8, shr_u64_16, shl_u64_16, shr_u64_24, shl_u64_24, shr_u64_40, shl_u64_40, shr_i64_4, shl_i64_4, shr_i64_8, shl_i64_8, shr_i64_16, shl_i64_16, shr_i64_24, shl_i64_24, shr_i64_40, shl_i64_40]; omega)
    | ((with_reducible refine Arith.u64 ?_ ?_); simp (discharger := omega) only [Int.tdiv_eq_ediv_of_nonneg, shr_u8_4, shl_u8_4, shr_u16_4, shl_u16_4, shr_u16_8, shl_u16_8, shr_u32_4, shl_u32_4, shr_u32_8, shl_u32_8, shr_u32_16, shl_u32_16, shr_u32_24, shl_u32_24, shr_u64_4, shl_u64_4, shr_u64_8, shl_u64_8, shr_u64_16, shl_u64_16, shr_u64_24, shl_u64_24, shr_u64_40, shl_u64_40, shr_i64_4, shl_i64_4, shr_i64_8, shl_i64_8, shr_i64_16, shl_i64_16, shr_i64_24, shl_i64_24, shr_i64_40, shl_i64_40]; omega)
    | ((with_reducible refine Arith.u32 ?_ ?_); simp (discharger := omega) only [Int.tdiv_eq_ediv_of_nonneg, shr_u8_4, shl_u8_4, shr_u16_4, shl_u16_4, shr_u16_8, shl_u16_8, shr_u32_4, shl_u32_4, shr_u32_8, shl_u32_8, shr_u32_16, shl_u32_16, shr_u32_24, shl_u32_24, shr_u64_4, shl_u64_4, shr_u64_8, shl_u64_8, shr_u64_16, shl_u64_16, shr_u64_24, shl_u64_24, shr_u64_40, shl_u64_40, shr_i64_4, shl_i64_4, shr_i64_8, shl_i64_8, shr_i64_16, shl_i64_16, shr_i64_24, shl_i64_24, shr_i64_40, shl_i64_40]; omega)
    | ((with_reducible refine Arith.u16 ?_ ?_); simp (discharger := omega) only [Int.tdiv_eq_ediv_of_nonneg, shr_u8_4, shl_u8_4, shr_u16_4, shl_u16_4, shr_u16_8, shl_u16_8, shr_u32_4, shl_u32_4, shr_u32_8, shl_u32_8, shr_u32_16, shl_u32_16, shr_u32_24, shl_u32_24, shr_u64_4, shl_u64_4, shr_u64_8, shl_u64_8, shr_u64_16, shl_u64_16, shr_u64_24, shl_u64_24, shr_u64_40, shl_u64_40, shr_i64_4, shl_i64_4, shr_i64_8, shl_i64_8, shr_i64_16, shl_i64_16, shr_i64_24, shl_i64_24, shr_i64_40, shl_i64_40]; omega)
    | ((with_reducible refine Arith.u8 ?_ ?_); simp (discharger := omega) only [Int.tdiv_eq_ediv_of_nonneg, shr_u8_4, shl_u8_4, shr_u16_4, shl_u16_4, shr_u16_8, shl_u16_8, shr_u32_4, shl_u32_4, shr_u32_8, shl_u32_8, shr_u32_16, shl_u32_16, shr_u32_24, shl_u32_24, shr_u64_4, shl_u64_4, shr_u64_8, shl_u64_8, shr_u64_16, shl_u64_16, shr_u64_24, shl_u64_24, shr_u64_40, shl_u64_40, shr_i64_4, shl_i64_4, shr_i64_8, shl_i64_8, shr_i64_16, shl_i64_16, shr_i64_24, shl_i64_24, shr_i64_40, shl_i64_40]; omega)
    | (with_reducible refine Arith.mk ?_)
    | (with_reducible refine Ends.mk ?_))
  all_goals first | (refine ⟨vB_t (by omega), rfl⟩) | (refine ⟨vB_f (by omega), rfl⟩) | (refine ⟨vB_tm (by omega) (by omega), rfl⟩) | (refine ⟨vB_te (by omega), rfl⟩) | (refine ⟨vB_p (by omega), rfl⟩)
set_option maxHeartbeats 1000000 in
theorem rmay_det (tos id : Int) (hold more : Bool) (at_ ttl proto fr to : Int) (o : ByteArray) (ho : o.size ≤ 1000000) : Det Try.prog 32 [.a (hdr tos id hold more at_ ttl proto fr to o)] [] (vB (may10 at_ o)) [] := by
  refine can_of_W known mix Try.func32 (by kernel_rfl) ok_ref10_May (Nat.le_of_ble_eq_true rfl) ?_
  repeat' ((conv => whnf); first
    | ((with_reducible refine Look.mk ?_); refine ⟨_, rfl, ?_⟩)
    | ((with_reducible refine LookN.zeros ?_))
    | ((with_reducible refine LookN.bytes ?_ ?_); (simp; done))
    | ((with_reducible refine BytesW.bytes ?_))
    | ((with_reducible refine Look.byte ?_ ?_); omega)
    | ((with_reducible refine Look.setb ?_ ?_ ?_); exact bv8_bd _; omega)
    | ((with_reducible refine LookN.setb ?_ ?_ ?_); exact bv8_bd _; omega)
    | ((with_reducible refine LookN.mk ?_); refine ⟨_, rfl, ?_⟩)
    | ((with_reducible refine Need.mk ?_ ?_); first | ((with_reducible refine needB ?_); kernel_rfl) | exact rfl | trivial | omega | exact Nat.le_of_ble_eq_true rfl | (exact ⟨rfl, by omega⟩) | (intro h; first | rfl | cases h) | (simp only [lenS_text, lenS_setN, lenS_zeros]; omega) | (simp only [ByteArray.size_append, size_lit, List.size_toArray, List.length_cons, List.length_nil, Sp.ofB_size]; omega))
    | ((with_reducible refine BytesW.mk ?_); refine ⟨_, rfl, ?_⟩)
    | ((with_reducible refine Test.tmodEqT ?_ ?_ ?_); omega; focus omega)
    | ((with_reducible refine Test.tmodEqF ?_ ?_ ?_); omega; focus omega)
    | ((with_reducible refine Test.tmodNeT ?_ ?_ ?_); omega; focus omega)
    | ((with_reducible refine Test.tmodNeF ?_ ?_ ?_); omega; focus omega)
    | ((with_reducible refine Test.tmodEq ?_ (fun h => ?_) (fun h => ?_)); omega)
    | ((with_reducible refine Test.tmodNe ?_ (fun h => ?_) (fun h => ?_)); omega)
    | (with_reducible refine Test.shru8_4 (fun h => ?_) (fun h => ?_))
    | (with_reducible refine Test.shreu8_4 (fun h => ?_) (fun h => ?_))
    | ((with_reducible refine Test.notT ?_ ?_); focus assumption)
    | ((with_reducible refine Test.notF ?_ ?_); focus assumption)
    | (with_reducible refine Test.notIe (fun h => ?_) (fun h => ?_))
    | (with_reducible refine Test.notD (fun h => ?_) (fun h => ?_))
    | ((with_reducible refine Test.empty (fun h => ?_) (fun h => ?_)))
    | (with_reducible refine Test.tt ?_)
    | (with_reducible refine Test.ff ?_)
    | ((with_reducible refine Test.dt ?_ ?_); omega)
    | ((with_reducible refine Test.df ?_ ?_); omega)
    | (with_reducible refine Test.d (fun h => ?_) (fun h => ?_))
    | ((with_reducible refine Test.ieT ?_ ?_); omega)
    | ((with_reducible refine Test.ieF ?_ ?_); omega)
    | ((with_reducible refine Test.neT ?_ ?_); omega)
    | ((with_reducible refine Test.neF ?_ ?_); omega)
    | (with_reducible refine Test.ie (fun h => ?_) (fun h => ?_))
    | (with_reducible refine Test.ne (fun h => ?_) (fun h => ?_))
    | ((with_reducible refine Test.b ?_ ?_); (focus first | assumption | (simp [negB]; done) | exact rfl))
    | ((with_reducible refine Test.nb ?_ ?_); (focus first | assumption | (simp [negB]; done) | exact rfl))
    | (with_reducible refine Test.notS (fun h => ?_) (fun h => ?_))
    | (with_reducible refine Test.mk (fun h => ?_) (fun h => ?_))
    | ((with_reducible refine Arith.ori64_16384 ?_ ?_); omega)
    | ((with_reducible refine Arith.ori64_8192 ?_ ?_); omega)
    | ((with_reducible refine Arith.holdmore ?_ ?_); omega)
    | ((with_reducible refine Arith.ori64_64' ?_ ?_); omega)
    | ((with_reducible refine Arith.andu8_15 ?_ ?_); omega)
    | ((with_reducible refine Arith.andi64_8191 ?_ ?_); omega)
    | ((with_reducible refine Arith.biti64_16384 ?_ ?_); omega)
    | ((with_reducible refine Arith.biti64_8192 ?_ ?_); omega)
    | ((with_reducible refine Arith.biti64_32768 ?_ ?_); omega)
    | ((with_reducible refine Arith.tdiv ?_ ?_); omega)
    | (with_reducible refine Arith.bv8 ?_)
    | (with_reducible refine Arith.bv16 ?_)
    | (with_reducible refine Arith.bv32 ?_)
    | (with_reducible refine Arith.bv64 ?_)
    | ((with_reducible refine Arith.i64 ?_ ?_); omega)
    | ((with_reducible refine Arith.u64 ?_ ?_); omega)
    | ((with_reducible refine Arith.u32 ?_ ?_); omega)
    | ((with_reducible refine Arith.u16 ?_ ?_); omega)
    | ((with_reducible refine Arith.u8 ?_ ?_); omega)
    | ((with_reducible refine Arith.i32 ?_ ?_); omega)
    | ((with_reducible refine Arith.i64 ?_ ?_); simp (discharger := omega) only [Int.tdiv_eq_ediv_of_nonneg, shr_u8_4, shl_u8_4, shr_u16_4, shl_u16_4, shr_u16_8, shl_u16_8, shr_u32_4, shl_u32_4, shr_u32_8, shl_u32_8, shr_u32_16, shl_u32_16, shr_u32_24, shl_u32_24, shr_u64_4, shl_u64_4, shr_u64_8, shl_u64_8, shr_u64_16, shl_u64_16, shr_u64_24, shl_u64_24, shr_u64_40, shl_u64_40, shr_i64_4, shl_i64_4, shr_i64_8, shl_i64_8, shr_i64_16, shl_i64_16, shr_i64_24, shl_i64_24, shr_i64_40, shl_i64_40]; omega)
    | ((with_reducible refine Arith.u64 ?_ ?_); simp (discharger := omega) only [Int.tdiv_eq_ediv_of_nonneg, shr_u8_4, shl_u8_4, shr_u16_4, shl_u16_4, shr_u16_8, shl_u16_8, shr_u32_4, shl_u32_4, shr_u32_8, shl_u32_8, shr_u32_16, shl_u32_16, shr_u32_24, shl_u32_24, shr_u64_4, shl_u64_4, shr_u64_8, shl_u64_8, shr_u64_16, shl_u64_16, shr_u64_24, shl_u64_24, shr_u64_40, shl_u64_40, shr_i64_4, shl_i64_4, shr_i64_8, shl_i64_8, shr_i64_16, shl_i64_16, shr_i64_24, shl_i64_24, shr_i64_40, shl_i64_40]; omega)
    | ((with_reducible refine Arith.u32 ?_ ?_); simp (discharger := omega) only [Int.tdiv_eq_ediv_of_nonneg, shr_u8_4, shl_u8_4, shr_u16_4, shl_u16_4, shr_u16_8, shl_u16_8, shr_u32_4, shl_u32_4, shr_u32_8, shl_u32_8, shr_u32_16, shl_u32_16, shr_u32_24, shl_u32_24, shr_u64_4, shl_u64_4, shr_u64_8, shl_u64_8, shr_u64_16, shl_u64_16, shr_u64_24, shl_u64_24, shr_u64_40, shl_u64_40, shr_i64_4, shl_i64_4, shr_i64_8, shl_i64_8, shr_i64_16, shl_i64_16, shr_i64_24, shl_i64_24, shr_i64_40, shl_i64_40]; omega)
    | ((with_reducible refine Arith.u16 ?_ ?_); simp (discharger := omega) only [Int.tdiv_eq_ediv_of_nonneg, shr_u8_4, shl_u8_4, shr_u16_4, shl_u16_4, shr_u16_8, shl_u16_8, shr_u32_4, shl_u32_4, shr_u32_8, shl_u32_8, shr_u32_16, shl_u32_16, shr_u32_24, shl_u32_24, shr_u64_4, shl_u64_4, shr_u64_8, shl_u64_8, shr_u64_16, shl_u64_16, shr_u64_24, shl_u64_24, shr_u64_40, shl_u64_40, shr_i64_4, shl_i64_4, shr_i64_8, shl_i64_8, shr_i64_16, shl_i64_16, shr_i64_24, shl_i64_24, shr_i64_40, shl_i64_40]; omega)
    | ((with_reducible refine Arith.u8 ?_ ?_); simp (discharger := omega) only [Int.tdiv_eq_ediv_of_nonneg, shr_u8_4, shl_u8_4, shr_u16_4, shl_u16_4, shr_u16_8, shl_u16_8, shr_u32_4, shl_u32_4, shr_u32_8, shl_u32_8, shr_u32_16, shl_u32_16, shr_u32_24, shl_u32_24, shr_u64_4, shl_u64_4, shr_u64_8, shl_u64_8, shr_u64_16, shl_u64_16, shr_u64_24, shl_u64_24, shr_u64_40, shl_u64_40, shr_i64_4, shl_i64_4, shr_i64_8, shl_i64_8, shr_i64_16, shl_i64_16, shr_i64_24, shl_i64_24, shr_i64_40, shl_i64_40]; omega)
    | (with_reducible refine Arith.mk ?_)
    | (with_reducible refine Ends.mk ?_))
  all_goals first | (refine ⟨vB_t (by omega), rfl⟩) | (refine ⟨vB_f (by omega), rfl⟩) | (refine ⟨vB_tm (by omega) (by omega), rfl⟩) | (refine ⟨vB_te (by omega), rfl⟩) | (refine ⟨vB_p (by omega), rfl⟩)
set_option maxHeartbeats 1000000 in
theorem rwhole_t (tos id : Int) (hold : Bool) (at_ ttl proto fr to : Int) (o : ByteArray) (n : Int) (hn : 0 ≤ n) : Det Try.prog 63 [.a (hdr tos id hold true at_ ttl proto fr to o), .o (.int .i64 n)] [] (vB (decide (0 < n ∧ n % 8 = 0))) [] := by
  refine can_of_W known mix Try.func63 (by kernel_rfl) ok_ref10_whole (Nat.le_of_ble_eq_true rfl) ?_
  repeat' ((conv => whnf); first
    | ((with_reducible refine Look.mk ?_); refine ⟨_, rfl, ?_⟩)
    | ((with_reducible refine LookN.zeros ?_))
    | ((with_reducible refine LookN.bytes ?_ ?_); (simp; done))
    | ((with_reducible refine BytesW.bytes ?_))
    | ((with_reducible refine Look.byte ?_ ?_); omega)
    | ((with_reducible refine Look.setb ?_ ?_ ?_); exact bv8_bd _; omega)
    | ((with_reducible refine LookN.setb ?_ ?_ ?_); exact bv8_bd _; omega)
    | ((with_reducible refine LookN.mk ?_); refine ⟨_, rfl, ?_⟩)
    | ((with_reducible refine Need.mk ?_ ?_); first | ((with_reducible refine needB ?_); kernel_rfl) | exact rfl | trivial | omega | exact Nat.le_of_ble_eq_true rfl | (exact ⟨rfl, by omega⟩) | (intro h; first | rfl | cases h) | (simp only [lenS_text, lenS_setN, lenS_zeros]; omega) | (simp only [ByteArray.size_append, size_lit, List.size_toArray, List.length_cons, List.length_nil, Sp.ofB_size]; omega))
    | ((with_reducible refine BytesW.mk ?_); refine ⟨_, rfl, ?_⟩)
    | ((with_reducible refine Test.tmodEqT ?_ ?_ ?_); omega; focus omega)
    | ((with_reducible refine Test.tmodEqF ?_ ?_ ?_); omega; focus omega)
    | ((with_reducible refine Test.tmodNeT ?_ ?_ ?_); omega; focus omega)
    | ((with_reducible refine Test.tmodNeF ?_ ?_ ?_); omega; focus omega)
    | ((with_reducible refine Test.tmodEq ?_ (fun h => ?_) (fun h => ?_)); omega)
    | ((with_reducible refine Test.tmodNe ?_ (fun h => ?_) (fun h => ?_)); omega)
    | (with_reducible refine Test.shru8_4 (fun h => ?_) (fun h => ?_))
    | (with_reducible refine Test.shreu8_4 (fun h => ?_) (fun h => ?_))
    | ((with_reducible refine Test.notT ?_ ?_); focus assumption)
    | ((with_reducible refine Test.notF ?_ ?_); focus assumption)
    | (with_reducible refine Test.notIe (fun h => ?_) (fun h => ?_))
    | (with_reducible refine Test.notD (fun h => ?_) (fun h => ?_))
    | ((with_reducible refine Test.empty (fun h => ?_) (fun h => ?_)))
    | (with_reducible refine Test.tt ?_)
    | (with_reducible refine Test.ff ?_)
    | ((with_reducible refine Test.dt ?_ ?_); omega)
    | ((with_reducible refine Test.df ?_ ?_); omega)
    | (with_reducible refine Test.d (fun h => ?_) (fun h => ?_))
    | ((with_reducible refine Test.ieT ?_ ?_); omega)
    | ((with_reducible refine Test.ieF ?_ ?_); omega)
    | ((with_reducible refine Test.neT ?_ ?_); omega)
    | ((with_reducible refine Test.neF ?_ ?_); omega)
    | (with_reducible refine Test.ie (fun h => ?_) (fun h => ?_))
    | (with_reducible refine Test.ne (fun h => ?_) (fun h => ?_))
    | ((with_reducible refine Test.b ?_ ?_); (focus first | assumption | (simp [negB]; done) | exact rfl))
    | ((with_reducible refine Test.nb ?_ ?_); (focus first | assumption | (simp [negB]; done) | exact rfl))
    | (with_reducible refine Test.notS (fun h => ?_) (fun h => ?_))
    | (with_reducible refine Test.mk (fun h => ?_) (fun h => ?_))
    | ((with_reducible refine Arith.ori64_16384 ?_ ?_); omega)
    | ((with_reducible refine Arith.ori64_8192 ?_ ?_); omega)
    | ((with_reducible refine Arith.holdmore ?_ ?_); omega)
    | ((with_reducible refine Arith.ori64_64' ?_ ?_); omega)
    | ((with_reducible refine Arith.andu8_15 ?_ ?_); omega)
    | ((with_reducible refine Arith.andi64_8191 ?_ ?_); omega)
    | ((with_reducible refine Arith.biti64_16384 ?_ ?_); omega)
    | ((with_reducible refine Arith.biti64_8192 ?_ ?_); omega)
    | ((with_reducible refine Arith.biti64_32768 ?_ ?_); omega)
    | ((with_reducible refine Arith.tdiv ?_ ?_); omega)
    | (with_reducible refine Arith.bv8 ?_)
    | (with_reducible refine Arith.bv16 ?_)
    | (with_reducible refine Arith.bv32 ?_)
    | (with_reducible refine Arith.bv64 ?_)
    | ((with_reducible refine Arith.i64 ?_ ?_); omega)
    | ((with_reducible refine Arith.u64 ?_ ?_); omega)
    | ((with_reducible refine Arith.u32 ?_ ?_); omega)
    | ((with_reducible refine Arith.u16 ?_ ?_); omega)
    | ((with_reducible refine Arith.u8 ?_ ?_); omega)
    | ((with_reducible refine Arith.i32 ?_ ?_); omega)
    | ((with_reducible refine Arith.i64 ?_ ?_); simp (discharger := omega) only [Int.tdiv_eq_ediv_of_nonneg, shr_u8_4, shl_u8_4, shr_u16_4, shl_u16_4, shr_u16_8, shl_u16_8, shr_u32_4, shl_u32_4, shr_u32_8, shl_u32_8, shr_u32_16, shl_u32_16, shr_u32_24, shl_u32_24, shr_u64_4, shl_u64_4, shr_u64_8, shl_u64_8, shr_u64_16, shl_u64_16, shr_u64_24, shl_u64_24, shr_u64_40, shl_u64_40, shr_i64_4, shl_i64_4, shr_i64_8, shl_i64_8, shr_i64_16, shl_i64_16, shr_i64_24, shl_i64_24, shr_i64_40, shl_i64_40]; omega)
    | ((with_reducible refine Arith.u64 ?_ ?_); simp (discharger := omega) only [Int.tdiv_eq_ediv_of_nonneg, shr_u8_4, shl_u8_4, shr_u16_4, shl_u16_4, shr_u16_8, shl_u16_8, shr_u32_4, shl_u32_4, shr_u32_8, shl_u32_8, shr_u32_16, shl_u32_16, shr_u32_24, shl_u32_24, shr_u64_4, shl_u64_4, shr_u64_8, shl_u64_8, shr_u64_16, shl_u64_16, shr_u64_24, shl_u64_24, shr_u64_40, shl_u64_40, shr_i64_4, shl_i64_4, shr_i64_8, shl_i64_8, shr_i64_16, shl_i64_16, shr_i64_24, shl_i64_24, shr_i64_40, shl_i64_40]; omega)
    | ((with_reducible refine Arith.u32 ?_ ?_); simp (discharger := omega) only [Int.tdiv_eq_ediv_of_nonneg, shr_u8_4, shl_u8_4, shr_u16_4, shl_u16_4, shr_u16_8, shl_u16_8, shr_u32_4, shl_u32_4, shr_u32_8, shl_u32_8, shr_u32_16, shl_u32_16, shr_u32_24, shl_u32_24, shr_u64_4, shl_u64_4, shr_u64_8, shl_u64_8, shr_u64_16, shl_u64_16, shr_u64_24, shl_u64_24, shr_u64_40, shl_u64_40, shr_i64_4, shl_i64_4, shr_i64_8, shl_i64_8, shr_i64_16, shl_i64_16, shr_i64_24, shl_i64_24, shr_i64_40, shl_i64_40]; omega)
    | ((with_reducible refine Arith.u16 ?_ ?_); simp (discharger := omega) only [Int.tdiv_eq_ediv_of_nonneg, shr_u8_4, shl_u8_4, shr_u16_4, shl_u16_4, shr_u16_8, shl_u16_8, shr_u32_4, shl_u32_4, shr_u32_8, shl_u32_8, shr_u32_16, shl_u32_16, shr_u32_24, shl_u32_24, shr_u64_4, shl_u64_4, shr_u64_8, shl_u64_8, shr_u64_16, shl_u64_16, shr_u64_24, shl_u64_24, shr_u64_40, shl_u64_40, shr_i64_4, shl_i64_4, shr_i64_8, shl_i64_8, shr_i64_16, shl_i64_16, shr_i64_24, shl_i64_24, shr_i64_40, shl_i64_40]; omega)
    | ((with_reducible refine Arith.u8 ?_ ?_); simp (discharger := omega) only [Int.tdiv_eq_ediv_of_nonneg, shr_u8_4, shl_u8_4, shr_u16_4, shl_u16_4, shr_u16_8, shl_u16_8, shr_u32_4, shl_u32_4, shr_u32_8, shl_u32_8, shr_u32_16, shl_u32_16, shr_u32_24, shl_u32_24, shr_u64_4, shl_u64_4, shr_u64_8, shl_u64_8, shr_u64_16, shl_u64_16, shr_u64_24, shl_u64_24, shr_u64_40, shl_u64_40, shr_i64_4, shl_i64_4, shr_i64_8, shl_i64_8, shr_i64_16, shl_i64_16, shr_i64_24, shl_i64_24, shr_i64_40, shl_i64_40]; omega)
    | (with_reducible refine Arith.mk ?_)
    | (with_reducible refine Ends.mk ?_))
  all_goals first | (refine ⟨vB_t (by omega), rfl⟩) | (refine ⟨vB_f (by omega), rfl⟩) | (refine ⟨vB_tm (by omega) (by omega), rfl⟩) | (refine ⟨vB_te (by omega), rfl⟩) | (refine ⟨vB_p (by omega), rfl⟩)
set_option maxHeartbeats 1000000 in
theorem rwhole_f (tos id : Int) (hold : Bool) (at_ ttl proto fr to : Int) (o : ByteArray) (n : Int) : Det Try.prog 63 [.a (hdr tos id hold false at_ ttl proto fr to o), .o (.int .i64 n)] [] (vB true) [] := by
  refine can_of_W known mix Try.func63 (by kernel_rfl) ok_ref10_whole (Nat.le_of_ble_eq_true rfl) ?_
  repeat' ((conv => whnf); first
    | ((with_reducible refine Look.mk ?_); refine ⟨_, rfl, ?_⟩)
    | ((with_reducible refine LookN.zeros ?_))
    | ((with_reducible refine LookN.bytes ?_ ?_); (simp; done))
    | ((with_reducible refine BytesW.bytes ?_))
    | ((with_reducible refine Look.byte ?_ ?_); omega)
    | ((with_reducible refine Look.setb ?_ ?_ ?_); exact bv8_bd _; omega)
    | ((with_reducible refine LookN.setb ?_ ?_ ?_); exact bv8_bd _; omega)
    | ((with_reducible refine LookN.mk ?_); refine ⟨_, rfl, ?_⟩)
    | ((with_reducible refine Need.mk ?_ ?_); first | ((with_reducible refine needB ?_); kernel_rfl) | exact rfl | trivial | omega | exact Nat.le_of_ble_eq_true rfl | (exact ⟨rfl, by omega⟩) | (intro h; first | rfl | cases h) | (simp only [lenS_text, lenS_setN, lenS_zeros]; omega) | (simp only [ByteArray.size_append, size_lit, List.size_toArray, List.length_cons, List.length_nil, Sp.ofB_size]; omega))
    | ((with_reducible refine BytesW.mk ?_); refine ⟨_, rfl, ?_⟩)
    | ((with_reducible refine Test.tmodEqT ?_ ?_ ?_); omega; focus omega)
    | ((with_reducible refine Test.tmodEqF ?_ ?_ ?_); omega; focus omega)
    | ((with_reducible refine Test.tmodNeT ?_ ?_ ?_); omega; focus omega)
    | ((with_reducible refine Test.tmodNeF ?_ ?_ ?_); omega; focus omega)
    | ((with_reducible refine Test.tmodEq ?_ (fun h => ?_) (fun h => ?_)); omega)
    | ((with_reducible refine Test.tmodNe ?_ (fun h => ?_) (fun h => ?_)); omega)
    | (with_reducible refine Test.shru8_4 (fun h => ?_) (fun h => ?_))
    | (with_reducible refine Test.shreu8_4 (fun h => ?_) (fun h => ?_))
    | ((with_reducible refine Test.notT ?_ ?_); focus assumption)
    | ((with_reducible refine Test.notF ?_ ?_); focus assumption)
    | (with_reducible refine Test.notIe (fun h => ?_) (fun h => ?_))
    | (with_reducible refine Test.notD (fun h => ?_) (fun h => ?_))
    | ((with_reducible refine Test.empty (fun h => ?_) (fun h => ?_)))
    | (with_reducible refine Test.tt ?_)
    | (with_reducible refine Test.ff ?_)
    | ((with_reducible refine Test.dt ?_ ?_); omega)
    | ((with_reducible refine Test.df ?_ ?_); omega)
    | (with_reducible refine Test.d (fun h => ?_) (fun h => ?_))
    | ((with_reducible refine Test.ieT ?_ ?_); omega)
    | ((with_reducible refine Test.ieF ?_ ?_); omega)
    | ((with_reducible refine Test.neT ?_ ?_); omega)
    | ((with_reducible refine Test.neF ?_ ?_); omega)
    | (with_reducible refine Test.ie (fun h => ?_) (fun h => ?_))
    | (with_reducible refine Test.ne (fun h => ?_) (fun h => ?_))
    | ((with_reducible refine Test.b ?_ ?_); (focus first | assumption | (simp [negB]; done) | exact rfl))
    | ((with_reducible refine Test.nb ?_ ?_); (focus first | assumption | (simp [negB]; done) | exact rfl))
    | (with_reducible refine Test.notS (fun h => ?_) (fun h => ?_))
    | (with_reducible refine Test.mk (fun h => ?_) (fun h => ?_))
    | ((with_reducible refine Arith.ori64_16384 ?_ ?_); omega)
    | ((with_reducible refine Arith.ori64_8192 ?_ ?_); omega)
    | ((with_reducible refine Arith.holdmore ?_ ?_); omega)
    | ((with_reducible refine Arith.ori64_64' ?_ ?_); omega)
    | ((with_reducible refine Arith.andu8_15 ?_ ?_); omega)
    | ((with_reducible refine Arith.andi64_8191 ?_ ?_); omega)
    | ((with_reducible refine Arith.biti64_16384 ?_ ?_); omega)
    | ((with_reducible refine Arith.biti64_8192 ?_ ?_); omega)
    | ((with_reducible refine Arith.biti64_32768 ?_ ?_); omega)
    | ((with_reducible refine Arith.tdiv ?_ ?_); omega)
    | (with_reducible refine Arith.bv8 ?_)
    | (with_reducible refine Arith.bv16 ?_)
    | (with_reducible refine Arith.bv32 ?_)
    | (with_reducible refine Arith.bv64 ?_)
    | ((with_reducible refine Arith.i64 ?_ ?_); omega)
    | ((with_reducible refine Arith.u64 ?_ ?_); omega)
    | ((with_reducible refine Arith.u32 ?_ ?_); omega)
    | ((with_reducible refine Arith.u16 ?_ ?_); omega)
    | ((with_reducible refine Arith.u8 ?_ ?_); omega)
    | ((with_reducible refine Arith.i32 ?_ ?_); omega)
    | ((with_reducible refine Arith.i64 ?_ ?_); simp (discharger := omega) only [Int.tdiv_eq_ediv_of_nonneg, shr_u8_4, shl_u8_4, shr_u16_4, shl_u16_4, shr_u16_8, shl_u16_8, shr_u32_4, shl_u32_4, shr_u32_8, shl_u32_8, shr_u32_16, shl_u32_16, shr_u32_24, shl_u32_24, shr_u64_4, shl_u64_4, shr_u64_8, shl_u64_8, shr_u64_16, shl_u64_16, shr_u64_24, shl_u64_24, shr_u64_40, shl_u64_40, shr_i64_4, shl_i64_4, shr_i64_8, shl_i64_8, shr_i64_16, shl_i64_16, shr_i64_24, shl_i64_24, shr_i64_40, shl_i64_40]; omega)
    | ((with_reducible refine Arith.u64 ?_ ?_); simp (discharger := omega) only [Int.tdiv_eq_ediv_of_nonneg, shr_u8_4, shl_u8_4, shr_u16_4, shl_u16_4, shr_u16_8, shl_u16_8, shr_u32_4, shl_u32_4, shr_u32_8, shl_u32_8, shr_u32_16, shl_u32_16, shr_u32_24, shl_u32_24, shr_u64_4, shl_u64_4, shr_u64_8, shl_u64_8, shr_u64_16, shl_u64_16, shr_u64_24, shl_u64_24, shr_u64_40, shl_u64_40, shr_i64_4, shl_i64_4, shr_i64_8, shl_i64_8, shr_i64_16, shl_i64_16, shr_i64_24, shl_i64_24, shr_i64_40, shl_i64_40]; omega)
    | ((with_reducible refine Arith.u32 ?_ ?_); simp (discharger := omega) only [Int.tdiv_eq_ediv_of_nonneg, shr_u8_4, shl_u8_4, shr_u16_4, shl_u16_4, shr_u16_8, shl_u16_8, shr_u32_4, shl_u32_4, shr_u32_8, shl_u32_8, shr_u32_16, shl_u32_16, shr_u32_24, shl_u32_24, shr_u64_4, shl_u64_4, shr_u64_8, shl_u64_8, shr_u64_16, shl_u64_16, shr_u64_24, shl_u64_24, shr_u64_40, shl_u64_40, shr_i64_4, shl_i64_4, shr_i64_8, shl_i64_8, shr_i64_16, shl_i64_16, shr_i64_24, shl_i64_24, shr_i64_40, shl_i64_40]; omega)
    | ((with_reducible refine Arith.u16 ?_ ?_); simp (discharger := omega) only [Int.tdiv_eq_ediv_of_nonneg, shr_u8_4, shl_u8_4, shr_u16_4, shl_u16_4, shr_u16_8, shl_u16_8, shr_u32_4, shl_u32_4, shr_u32_8, shl_u32_8, shr_u32_16, shl_u32_16, shr_u32_24, shl_u32_24, shr_u64_4, shl_u64_4, shr_u64_8, shl_u64_8, shr_u64_16, shl_u64_16, shr_u64_24, shl_u64_24, shr_u64_40, shl_u64_40, shr_i64_4, shl_i64_4, shr_i64_8, shl_i64_8, shr_i64_16, shl_i64_16, shr_i64_24, shl_i64_24, shr_i64_40, shl_i64_40]; omega)
    | ((with_reducible refine Arith.u8 ?_ ?_); simp (discharger := omega) only [Int.tdiv_eq_ediv_of_nonneg, shr_u8_4, shl_u8_4, shr_u16_4, shl_u16_4, shr_u16_8, shl_u16_8, shr_u32_4, shl_u32_4, shr_u32_8, shl_u32_8, shr_u32_16, shl_u32_16, shr_u32_24, shl_u32_24, shr_u64_4, shl_u64_4, shr_u64_8, shl_u64_8, shr_u64_16, shl_u64_16, shr_u64_24, shl_u64_24, shr_u64_40, shl_u64_40, shr_i64_4, shl_i64_4, shr_i64_8, shl_i64_8, shr_i64_16, shl_i64_16, shr_i64_24, shl_i64_24, shr_i64_40, shl_i64_40]; omega)
    | (with_reducible refine Arith.mk ?_)
    | (with_reducible refine Ends.mk ?_))
  all_goals first | exact ⟨rfl, rfl⟩ | (refine ⟨?_, rfl⟩; simp_all; done)
theorem rwhole_det (tos id : Int) (hold more : Bool) (at_ ttl proto fr to : Int) (o : ByteArray) (n : Int) (hn : 0 ≤ n) : Det Try.prog 63 [.a (hdr tos id hold more at_ ttl proto fr to o), .o (.int .i64 n)] [] (vB (whole10 more n)) [] := by
  cases more with
  | true => exact rwhole_t _ _ _ _ _ _ _ _ _ n hn
  | false => exact rwhole_f _ _ _ _ _ _ _ _ _ n
set_option maxHeartbeats 1000000 in
theorem rfits_det (tos id : Int) (hold more : Bool) (at_ ttl proto fr to : Int) (o : ByteArray) (n : Int) (hn : 0 ≤ n ∧ n ≤ 1000000) (ha : 0 ≤ at_ ∧ at_ ≤ 1000000) (ho : o.size ≤ 1000000) : Det Try.prog 64 [.a (hdr tos id hold more at_ ttl proto fr to o), .o (.int .i64 n)] [] (vB (fits10 at_ n o)) [] := by
  refine can_of_W known mix Try.func64 (by kernel_rfl) ok_ref10_fits (Nat.le_of_ble_eq_true rfl) ?_
  repeat' ((conv => whnf); first
    | ((with_reducible refine Look.mk ?_); refine ⟨_, rfl, ?_⟩)
    | ((with_reducible refine LookN.zeros ?_))
    | ((with_reducible refine LookN.bytes ?_ ?_); (simp; done))
    | ((with_reducible refine BytesW.bytes ?_))
    | ((with_reducible refine Look.byte ?_ ?_); omega)
    | ((with_reducible refine Look.setb ?_ ?_ ?_); exact bv8_bd _; omega)
    | ((with_reducible refine LookN.setb ?_ ?_ ?_); exact bv8_bd _; omega)
    | ((with_reducible refine LookN.mk ?_); refine ⟨_, rfl, ?_⟩)
    | ((with_reducible refine Need.mk ?_ ?_); first | ((with_reducible refine needB ?_); kernel_rfl) | exact rfl | trivial | omega | exact Nat.le_of_ble_eq_true rfl | (exact ⟨rfl, by omega⟩) | (intro h; first | rfl | cases h) | (simp only [lenS_text, lenS_setN, lenS_zeros]; omega) | (simp only [ByteArray.size_append, size_lit, List.size_toArray, List.length_cons, List.length_nil, Sp.ofB_size]; omega))
    | ((with_reducible refine BytesW.mk ?_); refine ⟨_, rfl, ?_⟩)
    | ((with_reducible refine Test.tmodEqT ?_ ?_ ?_); omega; focus omega)
    | ((with_reducible refine Test.tmodEqF ?_ ?_ ?_); omega; focus omega)
    | ((with_reducible refine Test.tmodNeT ?_ ?_ ?_); omega; focus omega)
    | ((with_reducible refine Test.tmodNeF ?_ ?_ ?_); omega; focus omega)
    | ((with_reducible refine Test.tmodEq ?_ (fun h => ?_) (fun h => ?_)); omega)
    | ((with_reducible refine Test.tmodNe ?_ (fun h => ?_) (fun h => ?_)); omega)
    | (with_reducible refine Test.shru8_4 (fun h => ?_) (fun h => ?_))
    | (with_reducible refine Test.shreu8_4 (fun h => ?_) (fun h => ?_))
    | ((with_reducible refine Test.notT ?_ ?_); focus assumption)
    | ((with_reducible refine Test.notF ?_ ?_); focus assumption)
    | (with_reducible refine Test.notIe (fun h => ?_) (fun h => ?_))
    | (with_reducible refine Test.notD (fun h => ?_) (fun h => ?_))
    | ((with_reducible refine Test.empty (fun h => ?_) (fun h => ?_)))
    | (with_reducible refine Test.tt ?_)
    | (with_reducible refine Test.ff ?_)
    | ((with_reducible refine Test.dt ?_ ?_); omega)
    | ((with_reducible refine Test.df ?_ ?_); omega)
    | (with_reducible refine Test.d (fun h => ?_) (fun h => ?_))
    | ((with_reducible refine Test.ieT ?_ ?_); omega)
    | ((with_reducible refine Test.ieF ?_ ?_); omega)
    | ((with_reducible refine Test.neT ?_ ?_); omega)
    | ((with_reducible refine Test.neF ?_ ?_); omega)
    | (with_reducible refine Test.ie (fun h => ?_) (fun h => ?_))
    | (with_reducible refine Test.ne (fun h => ?_) (fun h => ?_))
    | ((with_reducible refine Test.b ?_ ?_); (focus first | assumption | (simp [negB]; done) | exact rfl))
    | ((with_reducible refine Test.nb ?_ ?_); (focus first | assumption | (simp [negB]; done) | exact rfl))
    | (with_reducible refine Test.notS (fun h => ?_) (fun h => ?_))
    | (with_reducible refine Test.mk (fun h => ?_) (fun h => ?_))
    | ((with_reducible refine Arith.ori64_16384 ?_ ?_); omega)
    | ((with_reducible refine Arith.ori64_8192 ?_ ?_); omega)
    | ((with_reducible refine Arith.holdmore ?_ ?_); omega)
    | ((with_reducible refine Arith.ori64_64' ?_ ?_); omega)
    | ((with_reducible refine Arith.andu8_15 ?_ ?_); omega)
    | ((with_reducible refine Arith.andi64_8191 ?_ ?_); omega)
    | ((with_reducible refine Arith.biti64_16384 ?_ ?_); omega)
    | ((with_reducible refine Arith.biti64_8192 ?_ ?_); omega)
    | ((with_reducible refine Arith.biti64_32768 ?_ ?_); omega)
    | ((with_reducible refine Arith.tdiv ?_ ?_); omega)
    | (with_reducible refine Arith.bv8 ?_)
    | (with_reducible refine Arith.bv16 ?_)
    | (with_reducible refine Arith.bv32 ?_)
    | (with_reducible refine Arith.bv64 ?_)
    | ((with_reducible refine Arith.i64 ?_ ?_); omega)
    | ((with_reducible refine Arith.u64 ?_ ?_); omega)
    | ((with_reducible refine Arith.u32 ?_ ?_); omega)
    | ((with_reducible refine Arith.u16 ?_ ?_); omega)
    | ((with_reducible refine Arith.u8 ?_ ?_); omega)
    | ((with_reducible refine Arith.i32 ?_ ?_); omega)
    | ((with_reducible refine Arith.i64 ?_ ?_); simp (discharger := omega) only [Int.tdiv_eq_ediv_of_nonneg, shr_u8_4, shl_u8_4, shr_u16_4, shl_u16_4, shr_u16_8, shl_u16_8, shr_u32_4, shl_u32_4, shr_u32_8, shl_u32_8, shr_u32_16, shl_u32_16, shr_u32_24, shl_u32_24, shr_u64_4, shl_u64_4, shr_u64_8, shl_u64_8, shr_u64_16, shl_u64_16, shr_u64_24, shl_u64_24, shr_u64_40, shl_u64_40, shr_i64_4, shl_i64_4, shr_i64_8, shl_i64_8, shr_i64_16, shl_i64_16, shr_i64_24, shl_i64_24, shr_i64_40, shl_i64_40]; omega)
    | ((with_reducible refine Arith.u64 ?_ ?_); simp (discharger := omega) only [Int.tdiv_eq_ediv_of_nonneg, shr_u8_4, shl_u8_4, shr_u16_4, shl_u16_4, shr_u16_8, shl_u16_8, shr_u32_4, shl_u32_4, shr_u32_8, shl_u32_8, shr_u32_16, shl_u32_16, shr_u32_24, shl_u32_24, shr_u64_4, shl_u64_4, shr_u64_8, shl_u64_8, shr_u64_16, shl_u64_16, shr_u64_24, shl_u64_24, shr_u64_40, shl_u64_40, shr_i64_4, shl_i64_4, shr_i64_8, shl_i64_8, shr_i64_16, shl_i64_16, shr_i64_24, shl_i64_24, shr_i64_40, shl_i64_40]; omega)
    | ((with_reducible refine Arith.u32 ?_ ?_); simp (discharger := omega) only [Int.tdiv_eq_ediv_of_nonneg, shr_u8_4, shl_u8_4, shr_u16_4, shl_u16_4, shr_u16_8, shl_u16_8, shr_u32_4, shl_u32_4, shr_u32_8, shl_u32_8, shr_u32_16, shl_u32_16, shr_u32_24, shl_u32_24, shr_u64_4, shl_u64_4, shr_u64_8, shl_u64_8, shr_u64_16, shl_u64_16, shr_u64_24, shl_u64_24, shr_u64_40, shl_u64_40, shr_i64_4, shl_i64_4, shr_i64_8, shl_i64_8, shr_i64_16, shl_i64_16, shr_i64_24, shl_i64_24, shr_i64_40, shl_i64_40]; omega)
    | ((with_reducible refine Arith.u16 ?_ ?_); simp (discharger := omega) only [Int.tdiv_eq_ediv_of_nonneg, shr_u8_4, shl_u8_4, shr_u16_4, shl_u16_4, shr_u16_8, shl_u16_8, shr_u32_4, shl_u32_4, shr_u32_8, shl_u32_8, shr_u32_16, shl_u32_16, shr_u32_24, shl_u32_24, shr_u64_4, shl_u64_4, shr_u64_8, shl_u64_8, shr_u64_16, shl_u64_16, shr_u64_24, shl_u64_24, shr_u64_40, shl_u64_40, shr_i64_4, shl_i64_4, shr_i64_8, shl_i64_8, shr_i64_16, shl_i64_16, shr_i64_24, shl_i64_24, shr_i64_40, shl_i64_40]; omega)
    | ((with_reducible refine Arith.u8 ?_ ?_); simp (discharger := omega) only [Int.tdiv_eq_ediv_of_nonneg, shr_u8_4, shl_u8_4, shr_u16_4, shl_u16_4, shr_u16_8, shl_u16_8, shr_u32_4, shl_u32_4, shr_u32_8, shl_u32_8, shr_u32_16, shl_u32_16, shr_u32_24, shl_u32_24, shr_u64_4, shl_u64_4, shr_u64_8, shl_u64_8, shr_u64_16, shl_u64_16, shr_u64_24, shl_u64_24, shr_u64_40, shl_u64_40, shr_i64_4, shl_i64_4, shr_i64_8, shl_i64_8, shr_i64_16, shl_i64_16, shr_i64_24, shl_i64_24, shr_i64_40, shl_i64_40]; omega)
    | (with_reducible refine Arith.mk ?_)
    | (with_reducible refine Ends.mk ?_))
  all_goals first | (refine ⟨vB_t (by omega), rfl⟩) | (refine ⟨vB_f (by omega), rfl⟩) | (refine ⟨vB_tm (by omega) (by omega), rfl⟩) | (refine ⟨vB_te (by omega), rfl⟩) | (refine ⟨vB_p (by omega), rfl⟩)
def flags10 : Bool → Bool → Int → Int
  | true, true, a => a / 8 + 16384 + 8192
  | true, false, a => a / 8 + 16384
  | false, true, a => a / 8 + 8192
  | false, false, a => a / 8
def front10 (tos id : Int) (hold more : Bool) (at_ ttl proto n d : Int) : ByteArray := ⟨#[UInt8.ofNat (64 + n / 4).toNat, UInt8.ofNat tos.toNat]⟩ ++ Sp.ofB (n + d) 2 ++ Sp.ofB id 2 ++ Sp.ofB (flags10 hold more at_) 2 ++ ⟨#[UInt8.ofNat ttl.toNat, UInt8.ofNat proto.toNat]⟩
def back10 (fr to : Int) (o : ByteArray) : ByteArray := Sp.ofB fr 4 ++ Sp.ofB to 4 ++ o
def sum10 (f b : ByteArray) : Int := 65535 - Sp.sumB (f ++ b)
theorem sum10_bd (f b : ByteArray) : 0 ≤ sum10 f b ∧ sum10 f b ≤ 65535 := by have := Sp.sumB_bd (f ++ b); unfold sum10; omega
theorem sumB_le (s : ByteArray) : 0 ≤ 65535 - Sp.sumB s ∧ 65535 - Sp.sumB s ≤ 65535 := by have := Sp.sumB_bd s; omega
theorem sumB64 (s : ByteArray) : 0 ≤ 65535 - Sp.sumB s ∧ 65535 - Sp.sumB s ≤ 18446744073709551615 := by have := Sp.sumB_bd s; omega
/-- A packet's bytes. -/
def raw10 (tos id : Int) (hold more : Bool) (at_ ttl proto fr to : Int) (o d : ByteArray) : ByteArray :=
  front10 tos id hold more at_ ttl proto (20 + o.size) d.size ++ Sp.ofB (sum10 (front10 tos id hold more at_ ttl proto (20 + o.size) d.size) (back10 fr to o)) 2 ++ back10 fr to o ++ d
def enc10e (more : Bool) (at_ : Int) (o d : ByteArray) : Int := if may10 at_ o && whole10 more d.size then (if fits10 at_ d.size o then 0 else 4) else 2
def enc10 (tos id : Int) (hold more : Bool) (at_ ttl proto fr to : Int) (o d : ByteArray) : ByteArray := if enc10e more at_ o d = 0 then raw10 tos id hold more at_ ttl proto fr to o d else ⟨#[]⟩
theorem front10_size (tos id : Int) (hold more : Bool) (at_ ttl proto n d : Int) : (front10 tos id hold more at_ ttl proto n d).size = 10 := by unfold front10; simp only [ByteArray.size_append, size_lit, Sp.ofB_size]; rfl
theorem sum_zero (f b : ByteArray) (hf : f.size % 2 = 0) : Sp.sumB (f ++ (⟨#[0, 0]⟩ ++ b)) = Sp.sumB (f ++ b) := by
  have z : Sp.sumB ⟨#[0, 0]⟩ = 0 := by decide +kernel
  rw [Sp.sumB_append f _ hf, Sp.sumB_append f b hf, Sp.sumB_append ⟨#[0, 0]⟩ b (by decide), z, Sp.addStep_zero_left _ (Sp.sumB_bd b).1 (Sp.sumB_bd b).2]
set_option maxHeartbeats 1000000 in
theorem enc_a (tos id : Int) (hold more : Bool) (at_ ttl proto fr to : Int) (o : ByteArray) (d : ByteArray) (htos : 0 ≤ tos ∧ tos ≤ 255) (hid : 0 ≤ id ∧ id ≤ 65535) (hat : -9223372036854775808 ≤ at_ ∧ at_ ≤ 9223372036854775807) (httl : 0 ≤ ttl ∧ ttl ≤ 255) (hproto : 0 ≤ proto ∧ proto ≤ 255) (hfr : 0 ≤ fr ∧ fr ≤ 4294967295) (hto : 0 ≤ to ∧ to ≤ 4294967295) (hd : d.size ≤ 1000000) (ho : o.size ≤ 1000000) (hm : may10 at_ o = false) : Det Try.prog 26 [.a (hdr tos id hold more at_ ttl proto fr to o), .o (.str d)] [] (.t [.o (.str (enc10 tos id hold more at_ ttl proto fr to o d)), .o (.int .i64 (enc10e more at_ o d))]) [] := by
  refine can_of_W known mix Try.func26 (by kernel_rfl) ok_ip4_Encode (Nat.le_of_ble_eq_true rfl) ?_
  repeat' ((conv => whnf); first
    | ((with_reducible refine Look.mk ?_); refine ⟨_, rfl, ?_⟩)
    | ((with_reducible refine LookN.zeros ?_))
    | ((with_reducible refine LookN.bytes ?_ ?_); (simp; done))
    | ((with_reducible refine BytesW.bytes ?_))
    | ((with_reducible refine Look.byte ?_ ?_); omega)
    | ((with_reducible refine Look.setb ?_ ?_ ?_); exact bv8_bd _; omega)
    | ((with_reducible refine LookN.setb ?_ ?_ ?_); exact bv8_bd _; omega)
    | ((with_reducible refine LookN.mk ?_); refine ⟨_, rfl, ?_⟩)
    | ((with_reducible refine Need.mk ?_ ?_); first | ((with_reducible refine needB ?_); kernel_rfl) | exact rfl | trivial | omega | exact Nat.le_of_ble_eq_true rfl | (exact ⟨rfl, by omega⟩) | (intro h; first | rfl | cases h) | (simp only [lenS_text, lenS_setN, lenS_zeros]; omega) | (simp only [ByteArray.size_append, size_lit, List.size_toArray, List.length_cons, List.length_nil, Sp.ofB_size]; omega))
    | ((with_reducible refine BytesW.mk ?_); refine ⟨_, rfl, ?_⟩)
    | (with_reducible refine CallW.det (may_det _ _ _ _ _ _ _ _ _ _ (by omega)) ?_)
    | (with_reducible refine CallW.det (whole_det _ _ _ _ _ _ _ _ _ _ _ (by omega)) ?_)
    | (with_reducible refine CallW.det (fits_det _ _ _ _ _ _ _ _ _ _ _ (by omega) (by omega) (by omega)) ?_)
    | ((with_reducible refine Test.tmodEqT ?_ ?_ ?_); omega; focus omega)
    | ((with_reducible refine Test.tmodEqF ?_ ?_ ?_); omega; focus omega)
    | ((with_reducible refine Test.tmodNeT ?_ ?_ ?_); omega; focus omega)
    | ((with_reducible refine Test.tmodNeF ?_ ?_ ?_); omega; focus omega)
    | ((with_reducible refine Test.tmodEq ?_ (fun h => ?_) (fun h => ?_)); omega)
    | ((with_reducible refine Test.tmodNe ?_ (fun h => ?_) (fun h => ?_)); omega)
    | (with_reducible refine Test.shru8_4 (fun h => ?_) (fun h => ?_))
    | (with_reducible refine Test.shreu8_4 (fun h => ?_) (fun h => ?_))
    | ((with_reducible refine Test.notT ?_ ?_); focus assumption)
    | ((with_reducible refine Test.notF ?_ ?_); focus assumption)
    | (with_reducible refine Test.notIe (fun h => ?_) (fun h => ?_))
    | (with_reducible refine Test.notD (fun h => ?_) (fun h => ?_))
    | ((with_reducible refine Test.empty (fun h => ?_) (fun h => ?_)))
    | (with_reducible refine Test.tt ?_)
    | (with_reducible refine Test.ff ?_)
    | ((with_reducible refine Test.dt ?_ ?_); omega)
    | ((with_reducible refine Test.df ?_ ?_); omega)
    | (with_reducible refine Test.d (fun h => ?_) (fun h => ?_))
    | ((with_reducible refine Test.ieT ?_ ?_); omega)
    | ((with_reducible refine Test.ieF ?_ ?_); omega)
    | ((with_reducible refine Test.neT ?_ ?_); omega)
    | ((with_reducible refine Test.neF ?_ ?_); omega)
    | (with_reducible refine Test.ie (fun h => ?_) (fun h => ?_))
    | (with_reducible refine Test.ne (fun h => ?_) (fun h => ?_))
    | ((with_reducible refine Test.b ?_ ?_); (focus first | assumption | (simp [negB]; done) | exact rfl))
    | ((with_reducible refine Test.nb ?_ ?_); (focus first | assumption | (simp [negB]; done) | exact rfl))
    | (with_reducible refine Test.notS (fun h => ?_) (fun h => ?_))
    | (with_reducible refine Test.mk (fun h => ?_) (fun h => ?_))
    | ((with_reducible refine Arith.ori64_16384 ?_ ?_); omega)
    | ((with_reducible refine Arith.ori64_8192 ?_ ?_); omega)
    | ((with_reducible refine Arith.holdmore ?_ ?_); omega)
    | ((with_reducible refine Arith.ori64_64' ?_ ?_); omega)
    | ((with_reducible refine Arith.andu8_15 ?_ ?_); omega)
    | ((with_reducible refine Arith.andi64_8191 ?_ ?_); omega)
    | ((with_reducible refine Arith.biti64_16384 ?_ ?_); omega)
    | ((with_reducible refine Arith.biti64_8192 ?_ ?_); omega)
    | ((with_reducible refine Arith.biti64_32768 ?_ ?_); omega)
    | ((with_reducible refine Arith.tdiv ?_ ?_); omega)
    | (with_reducible refine Arith.bv8 ?_)
    | (with_reducible refine Arith.bv16 ?_)
    | (with_reducible refine Arith.bv32 ?_)
    | (with_reducible refine Arith.bv64 ?_)
    | ((with_reducible refine Arith.i64 ?_ ?_); omega)
    | ((with_reducible refine Arith.u64 ?_ ?_); omega)
    | ((with_reducible refine Arith.u32 ?_ ?_); omega)
    | ((with_reducible refine Arith.u16 ?_ ?_); omega)
    | ((with_reducible refine Arith.u8 ?_ ?_); omega)
    | ((with_reducible refine Arith.i32 ?_ ?_); omega)
    | ((with_reducible refine Arith.i64 ?_ ?_); simp (discharger := omega) only [Int.tdiv_eq_ediv_of_nonneg, shr_u8_4, shl_u8_4, shr_u16_4, shl_u16_4, shr_u16_8, shl_u16_8, shr_u32_4, shl_u32_4, shr_u32_8, shl_u32_8, shr_u32_16, shl_u32_16, shr_u32_24, shl_u32_24, shr_u64_4, shl_u64_4, shr_u64_8, shl_u64_8, shr_u64_16, shl_u64_16, shr_u64_24, shl_u64_24, shr_u64_40, shl_u64_40, shr_i64_4, shl_i64_4, shr_i64_8, shl_i64_8, shr_i64_16, shl_i64_16, shr_i64_24, shl_i64_24, shr_i64_40, shl_i64_40]; omega)
    | ((with_reducible refine Arith.u64 ?_ ?_); simp (discharger := omega) only [Int.tdiv_eq_ediv_of_nonneg, shr_u8_4, shl_u8_4, shr_u16_4, shl_u16_4, shr_u16_8, shl_u16_8, shr_u32_4, shl_u32_4, shr_u32_8, shl_u32_8, shr_u32_16, shl_u32_16, shr_u32_24, shl_u32_24, shr_u64_4, shl_u64_4, shr_u64_8, shl_u64_8, shr_u64_16, shl_u64_16, shr_u64_24, shl_u64_24, shr_u64_40, shl_u64_40, shr_i64_4, shl_i64_4, shr_i64_8, shl_i64_8, shr_i64_16, shl_i64_16, shr_i64_24, shl_i64_24, shr_i64_40, shl_i64_40]; omega)
    | ((with_reducible refine Arith.u32 ?_ ?_); simp (discharger := omega) only [Int.tdiv_eq_ediv_of_nonneg, shr_u8_4, shl_u8_4, shr_u16_4, shl_u16_4, shr_u16_8, shl_u16_8, shr_u32_4, shl_u32_4, shr_u32_8, shl_u32_8, shr_u32_16, shl_u32_16, shr_u32_24, shl_u32_24, shr_u64_4, shl_u64_4, shr_u64_8, shl_u64_8, shr_u64_16, shl_u64_16, shr_u64_24, shl_u64_24, shr_u64_40, shl_u64_40, shr_i64_4, shl_i64_4, shr_i64_8, shl_i64_8, shr_i64_16, shl_i64_16, shr_i64_24, shl_i64_24, shr_i64_40, shl_i64_40]; omega)
    | ((with_reducible refine Arith.u16 ?_ ?_); simp (discharger := omega) only [Int.tdiv_eq_ediv_of_nonneg, shr_u8_4, shl_u8_4, shr_u16_4, shl_u16_4, shr_u16_8, shl_u16_8, shr_u32_4, shl_u32_4, shr_u32_8, shl_u32_8, shr_u32_16, shl_u32_16, shr_u32_24, shl_u32_24, shr_u64_4, shl_u64_4, shr_u64_8, shl_u64_8, shr_u64_16, shl_u64_16, shr_u64_24, shl_u64_24, shr_u64_40, shl_u64_40, shr_i64_4, shl_i64_4, shr_i64_8, shl_i64_8, shr_i64_16, shl_i64_16, shr_i64_24, shl_i64_24, shr_i64_40, shl_i64_40]; omega)
    | ((with_reducible refine Arith.u8 ?_ ?_); simp (discharger := omega) only [Int.tdiv_eq_ediv_of_nonneg, shr_u8_4, shl_u8_4, shr_u16_4, shl_u16_4, shr_u16_8, shl_u16_8, shr_u32_4, shl_u32_4, shr_u32_8, shl_u32_8, shr_u32_16, shl_u32_16, shr_u32_24, shl_u32_24, shr_u64_4, shl_u64_4, shr_u64_8, shl_u64_8, shr_u64_16, shl_u64_16, shr_u64_24, shl_u64_24, shr_u64_40, shl_u64_40, shr_i64_4, shl_i64_4, shr_i64_8, shl_i64_8, shr_i64_16, shl_i64_16, shr_i64_24, shl_i64_24, shr_i64_40, shl_i64_40]; omega)
    | (with_reducible refine Arith.mk ?_)
    | (with_reducible refine Ends.mk ?_))
  all_goals (refine ⟨?_, rfl⟩; simp [enc10, enc10e, hm]; done)
set_option maxHeartbeats 1000000 in
theorem enc_b (tos id : Int) (hold more : Bool) (at_ ttl proto fr to : Int) (o : ByteArray) (d : ByteArray) (htos : 0 ≤ tos ∧ tos ≤ 255) (hid : 0 ≤ id ∧ id ≤ 65535) (hat : -9223372036854775808 ≤ at_ ∧ at_ ≤ 9223372036854775807) (httl : 0 ≤ ttl ∧ ttl ≤ 255) (hproto : 0 ≤ proto ∧ proto ≤ 255) (hfr : 0 ≤ fr ∧ fr ≤ 4294967295) (hto : 0 ≤ to ∧ to ≤ 4294967295) (hd : d.size ≤ 1000000) (ho : o.size ≤ 1000000) (hm : may10 at_ o = true) (hw : whole10 more d.size = false) : Det Try.prog 26 [.a (hdr tos id hold more at_ ttl proto fr to o), .o (.str d)] [] (.t [.o (.str (enc10 tos id hold more at_ ttl proto fr to o d)), .o (.int .i64 (enc10e more at_ o d))]) [] := by
  refine can_of_W known mix Try.func26 (by kernel_rfl) ok_ip4_Encode (Nat.le_of_ble_eq_true rfl) ?_
  repeat' ((conv => whnf); first
    | ((with_reducible refine Look.mk ?_); refine ⟨_, rfl, ?_⟩)
    | ((with_reducible refine LookN.zeros ?_))
    | ((with_reducible refine LookN.bytes ?_ ?_); (simp; done))
    | ((with_reducible refine BytesW.bytes ?_))
    | ((with_reducible refine Look.byte ?_ ?_); omega)
    | ((with_reducible refine Look.setb ?_ ?_ ?_); exact bv8_bd _; omega)
    | ((with_reducible refine LookN.setb ?_ ?_ ?_); exact bv8_bd _; omega)
    | ((with_reducible refine LookN.mk ?_); refine ⟨_, rfl, ?_⟩)
    | ((with_reducible refine Need.mk ?_ ?_); first | ((with_reducible refine needB ?_); kernel_rfl) | exact rfl | trivial | omega | exact Nat.le_of_ble_eq_true rfl | (exact ⟨rfl, by omega⟩) | (intro h; first | rfl | cases h) | (simp only [lenS_text, lenS_setN, lenS_zeros]; omega) | (simp only [ByteArray.size_append, size_lit, List.size_toArray, List.length_cons, List.length_nil, Sp.ofB_size]; omega))
    | ((with_reducible refine BytesW.mk ?_); refine ⟨_, rfl, ?_⟩)
    | (with_reducible refine CallW.det (may_det _ _ _ _ _ _ _ _ _ _ (by omega)) ?_)
    | (with_reducible refine CallW.det (whole_det _ _ _ _ _ _ _ _ _ _ _ (by omega)) ?_)
    | (with_reducible refine CallW.det (fits_det _ _ _ _ _ _ _ _ _ _ _ (by omega) (by omega) (by omega)) ?_)
    | ((with_reducible refine Test.tmodEqT ?_ ?_ ?_); omega; focus omega)
    | ((with_reducible refine Test.tmodEqF ?_ ?_ ?_); omega; focus omega)
    | ((with_reducible refine Test.tmodNeT ?_ ?_ ?_); omega; focus omega)
    | ((with_reducible refine Test.tmodNeF ?_ ?_ ?_); omega; focus omega)
    | ((with_reducible refine Test.tmodEq ?_ (fun h => ?_) (fun h => ?_)); omega)
    | ((with_reducible refine Test.tmodNe ?_ (fun h => ?_) (fun h => ?_)); omega)
    | (with_reducible refine Test.shru8_4 (fun h => ?_) (fun h => ?_))
    | (with_reducible refine Test.shreu8_4 (fun h => ?_) (fun h => ?_))
    | ((with_reducible refine Test.notT ?_ ?_); focus assumption)
    | ((with_reducible refine Test.notF ?_ ?_); focus assumption)
    | (with_reducible refine Test.notIe (fun h => ?_) (fun h => ?_))
    | (with_reducible refine Test.notD (fun h => ?_) (fun h => ?_))
    | ((with_reducible refine Test.empty (fun h => ?_) (fun h => ?_)))
    | (with_reducible refine Test.tt ?_)
    | (with_reducible refine Test.ff ?_)
    | ((with_reducible refine Test.dt ?_ ?_); omega)
    | ((with_reducible refine Test.df ?_ ?_); omega)
    | (with_reducible refine Test.d (fun h => ?_) (fun h => ?_))
    | ((with_reducible refine Test.ieT ?_ ?_); omega)
    | ((with_reducible refine Test.ieF ?_ ?_); omega)
    | ((with_reducible refine Test.neT ?_ ?_); omega)
    | ((with_reducible refine Test.neF ?_ ?_); omega)
    | (with_reducible refine Test.ie (fun h => ?_) (fun h => ?_))
    | (with_reducible refine Test.ne (fun h => ?_) (fun h => ?_))
    | ((with_reducible refine Test.b ?_ ?_); (focus first | assumption | (simp [negB]; done) | exact rfl))
    | ((with_reducible refine Test.nb ?_ ?_); (focus first | assumption | (simp [negB]; done) | exact rfl))
    | (with_reducible refine Test.notS (fun h => ?_) (fun h => ?_))
    | (with_reducible refine Test.mk (fun h => ?_) (fun h => ?_))
    | ((with_reducible refine Arith.ori64_16384 ?_ ?_); omega)
    | ((with_reducible refine Arith.ori64_8192 ?_ ?_); omega)
    | ((with_reducible refine Arith.holdmore ?_ ?_); omega)
    | ((with_reducible refine Arith.ori64_64' ?_ ?_); omega)
    | ((with_reducible refine Arith.andu8_15 ?_ ?_); omega)
    | ((with_reducible refine Arith.andi64_8191 ?_ ?_); omega)
    | ((with_reducible refine Arith.biti64_16384 ?_ ?_); omega)
    | ((with_reducible refine Arith.biti64_8192 ?_ ?_); omega)
    | ((with_reducible refine Arith.biti64_32768 ?_ ?_); omega)
    | ((with_reducible refine Arith.tdiv ?_ ?_); omega)
    | (with_reducible refine Arith.bv8 ?_)
    | (with_reducible refine Arith.bv16 ?_)
    | (with_reducible refine Arith.bv32 ?_)
    | (with_reducible refine Arith.bv64 ?_)
    | ((with_reducible refine Arith.i64 ?_ ?_); omega)
    | ((with_reducible refine Arith.u64 ?_ ?_); omega)
    | ((with_reducible refine Arith.u32 ?_ ?_); omega)
    | ((with_reducible refine Arith.u16 ?_ ?_); omega)
    | ((with_reducible refine Arith.u8 ?_ ?_); omega)
    | ((with_reducible refine Arith.i32 ?_ ?_); omega)
    | ((with_reducible refine Arith.i64 ?_ ?_); simp (discharger := omega) only [Int.tdiv_eq_ediv_of_nonneg, shr_u8_4, shl_u8_4, shr_u16_4, shl_u16_4, shr_u16_8, shl_u16_8, shr_u32_4, shl_u32_4, shr_u32_8, shl_u32_8, shr_u32_16, shl_u32_16, shr_u32_24, shl_u32_24, shr_u64_4, shl_u64_4, shr_u64_8, shl_u64_8, shr_u64_16, shl_u64_16, shr_u64_24, shl_u64_24, shr_u64_40, shl_u64_40, shr_i64_4, shl_i64_4, shr_i64_8, shl_i64_8, shr_i64_16, shl_i64_16, shr_i64_24, shl_i64_24, shr_i64_40, shl_i64_40]; omega)
    | ((with_reducible refine Arith.u64 ?_ ?_); simp (discharger := omega) only [Int.tdiv_eq_ediv_of_nonneg, shr_u8_4, shl_u8_4, shr_u16_4, shl_u16_4, shr_u16_8, shl_u16_8, shr_u32_4, shl_u32_4, shr_u32_8, shl_u32_8, shr_u32_16, shl_u32_16, shr_u32_24, shl_u32_24, shr_u64_4, shl_u64_4, shr_u64_8, shl_u64_8, shr_u64_16, shl_u64_16, shr_u64_24, shl_u64_24, shr_u64_40, shl_u64_40, shr_i64_4, shl_i64_4, shr_i64_8, shl_i64_8, shr_i64_16, shl_i64_16, shr_i64_24, shl_i64_24, shr_i64_40, shl_i64_40]; omega)
    | ((with_reducible refine Arith.u32 ?_ ?_); simp (discharger := omega) only [Int.tdiv_eq_ediv_of_nonneg, shr_u8_4, shl_u8_4, shr_u16_4, shl_u16_4, shr_u16_8, shl_u16_8, shr_u32_4, shl_u32_4, shr_u32_8, shl_u32_8, shr_u32_16, shl_u32_16, shr_u32_24, shl_u32_24, shr_u64_4, shl_u64_4, shr_u64_8, shl_u64_8, shr_u64_16, shl_u64_16, shr_u64_24, shl_u64_24, shr_u64_40, shl_u64_40, shr_i64_4, shl_i64_4, shr_i64_8, shl_i64_8, shr_i64_16, shl_i64_16, shr_i64_24, shl_i64_24, shr_i64_40, shl_i64_40]; omega)
    | ((with_reducible refine Arith.u16 ?_ ?_); simp (discharger := omega) only [Int.tdiv_eq_ediv_of_nonneg, shr_u8_4, shl_u8_4, shr_u16_4, shl_u16_4, shr_u16_8, shl_u16_8, shr_u32_4, shl_u32_4, shr_u32_8, shl_u32_8, shr_u32_16, shl_u32_16, shr_u32_24, shl_u32_24, shr_u64_4, shl_u64_4, shr_u64_8, shl_u64_8, shr_u64_16, shl_u64_16, shr_u64_24, shl_u64_24, shr_u64_40, shl_u64_40, shr_i64_4, shl_i64_4, shr_i64_8, shl_i64_8, shr_i64_16, shl_i64_16, shr_i64_24, shl_i64_24, shr_i64_40, shl_i64_40]; omega)
    | ((with_reducible refine Arith.u8 ?_ ?_); simp (discharger := omega) only [Int.tdiv_eq_ediv_of_nonneg, shr_u8_4, shl_u8_4, shr_u16_4, shl_u16_4, shr_u16_8, shl_u16_8, shr_u32_4, shl_u32_4, shr_u32_8, shl_u32_8, shr_u32_16, shl_u32_16, shr_u32_24, shl_u32_24, shr_u64_4, shl_u64_4, shr_u64_8, shl_u64_8, shr_u64_16, shl_u64_16, shr_u64_24, shl_u64_24, shr_u64_40, shl_u64_40, shr_i64_4, shl_i64_4, shr_i64_8, shl_i64_8, shr_i64_16, shl_i64_16, shr_i64_24, shl_i64_24, shr_i64_40, shl_i64_40]; omega)
    | (with_reducible refine Arith.mk ?_)
    | (with_reducible refine Ends.mk ?_))
  all_goals (refine ⟨?_, rfl⟩; simp [enc10, enc10e, hm, hw]; done)
set_option maxHeartbeats 1000000 in
theorem enc_c (tos id : Int) (hold more : Bool) (at_ ttl proto fr to : Int) (o : ByteArray) (d : ByteArray) (htos : 0 ≤ tos ∧ tos ≤ 255) (hid : 0 ≤ id ∧ id ≤ 65535) (hat : -9223372036854775808 ≤ at_ ∧ at_ ≤ 9223372036854775807) (httl : 0 ≤ ttl ∧ ttl ≤ 255) (hproto : 0 ≤ proto ∧ proto ≤ 255) (hfr : 0 ≤ fr ∧ fr ≤ 4294967295) (hto : 0 ≤ to ∧ to ≤ 4294967295) (hd : d.size ≤ 1000000) (ho : o.size ≤ 1000000) (hm : may10 at_ o = true) (hw : whole10 more d.size = true) (hf : fits10 at_ d.size o = false) : Det Try.prog 26 [.a (hdr tos id hold more at_ ttl proto fr to o), .o (.str d)] [] (.t [.o (.str (enc10 tos id hold more at_ ttl proto fr to o d)), .o (.int .i64 (enc10e more at_ o d))]) [] := by
  have hmb := may10_bd hm
  refine can_of_W known mix Try.func26 (by kernel_rfl) ok_ip4_Encode (Nat.le_of_ble_eq_true rfl) ?_
  repeat' ((conv => whnf); first
    | ((with_reducible refine Look.mk ?_); refine ⟨_, rfl, ?_⟩)
    | ((with_reducible refine LookN.zeros ?_))
    | ((with_reducible refine LookN.bytes ?_ ?_); (simp; done))
    | ((with_reducible refine BytesW.bytes ?_))
    | ((with_reducible refine Look.byte ?_ ?_); omega)
    | ((with_reducible refine Look.setb ?_ ?_ ?_); exact bv8_bd _; omega)
    | ((with_reducible refine LookN.setb ?_ ?_ ?_); exact bv8_bd _; omega)
    | ((with_reducible refine LookN.mk ?_); refine ⟨_, rfl, ?_⟩)
    | ((with_reducible refine Need.mk ?_ ?_); first | ((with_reducible refine needB ?_); kernel_rfl) | exact rfl | trivial | omega | exact Nat.le_of_ble_eq_true rfl | (exact ⟨rfl, by omega⟩) | (intro h; first | rfl | cases h) | (simp only [lenS_text, lenS_setN, lenS_zeros]; omega) | (simp only [ByteArray.size_append, size_lit, List.size_toArray, List.length_cons, List.length_nil, Sp.ofB_size]; omega))
    | ((with_reducible refine BytesW.mk ?_); refine ⟨_, rfl, ?_⟩)
    | (with_reducible refine CallW.det (may_det _ _ _ _ _ _ _ _ _ _ (by omega)) ?_)
    | (with_reducible refine CallW.det (whole_det _ _ _ _ _ _ _ _ _ _ _ (by omega)) ?_)
    | (with_reducible refine CallW.det (fits_det _ _ _ _ _ _ _ _ _ _ _ (by omega) (by omega) (by omega)) ?_)
    | ((with_reducible refine Test.tmodEqT ?_ ?_ ?_); omega; focus omega)
    | ((with_reducible refine Test.tmodEqF ?_ ?_ ?_); omega; focus omega)
    | ((with_reducible refine Test.tmodNeT ?_ ?_ ?_); omega; focus omega)
    | ((with_reducible refine Test.tmodNeF ?_ ?_ ?_); omega; focus omega)
    | ((with_reducible refine Test.tmodEq ?_ (fun h => ?_) (fun h => ?_)); omega)
    | ((with_reducible refine Test.tmodNe ?_ (fun h => ?_) (fun h => ?_)); omega)
    | (with_reducible refine Test.shru8_4 (fun h => ?_) (fun h => ?_))
    | (with_reducible refine Test.shreu8_4 (fun h => ?_) (fun h => ?_))
    | ((with_reducible refine Test.notT ?_ ?_); focus assumption)
    | ((with_reducible refine Test.notF ?_ ?_); focus assumption)
    | (with_reducible refine Test.notIe (fun h => ?_) (fun h => ?_))
    | (with_reducible refine Test.notD (fun h => ?_) (fun h => ?_))
    | ((with_reducible refine Test.empty (fun h => ?_) (fun h => ?_)))
    | (with_reducible refine Test.tt ?_)
    | (with_reducible refine Test.ff ?_)
    | ((with_reducible refine Test.dt ?_ ?_); omega)
    | ((with_reducible refine Test.df ?_ ?_); omega)
    | (with_reducible refine Test.d (fun h => ?_) (fun h => ?_))
    | ((with_reducible refine Test.ieT ?_ ?_); omega)
    | ((with_reducible refine Test.ieF ?_ ?_); omega)
    | ((with_reducible refine Test.neT ?_ ?_); omega)
    | ((with_reducible refine Test.neF ?_ ?_); omega)
    | (with_reducible refine Test.ie (fun h => ?_) (fun h => ?_))
    | (with_reducible refine Test.ne (fun h => ?_) (fun h => ?_))
    | ((with_reducible refine Test.b ?_ ?_); (focus first | assumption | (simp [negB]; done) | exact rfl))
    | ((with_reducible refine Test.nb ?_ ?_); (focus first | assumption | (simp [negB]; done) | exact rfl))
    | (with_reducible refine Test.notS (fun h => ?_) (fun h => ?_))
    | (with_reducible refine Test.mk (fun h => ?_) (fun h => ?_))
    | ((with_reducible refine Arith.ori64_16384 ?_ ?_); omega)
    | ((with_reducible refine Arith.ori64_8192 ?_ ?_); omega)
    | ((with_reducible refine Arith.holdmore ?_ ?_); omega)
    | ((with_reducible refine Arith.ori64_64' ?_ ?_); omega)
    | ((with_reducible refine Arith.andu8_15 ?_ ?_); omega)
    | ((with_reducible refine Arith.andi64_8191 ?_ ?_); omega)
    | ((with_reducible refine Arith.biti64_16384 ?_ ?_); omega)
    | ((with_reducible refine Arith.biti64_8192 ?_ ?_); omega)
    | ((with_reducible refine Arith.biti64_32768 ?_ ?_); omega)
    | ((with_reducible refine Arith.tdiv ?_ ?_); omega)
    | (with_reducible refine Arith.bv8 ?_)
    | (with_reducible refine Arith.bv16 ?_)
    | (with_reducible refine Arith.bv32 ?_)
    | (with_reducible refine Arith.bv64 ?_)
    | ((with_reducible refine Arith.i64 ?_ ?_); omega)
    | ((with_reducible refine Arith.u64 ?_ ?_); omega)
    | ((with_reducible refine Arith.u32 ?_ ?_); omega)
    | ((with_reducible refine Arith.u16 ?_ ?_); omega)
    | ((with_reducible refine Arith.u8 ?_ ?_); omega)
    | ((with_reducible refine Arith.i32 ?_ ?_); omega)
    | ((with_reducible refine Arith.i64 ?_ ?_); simp (discharger := omega) only [Int.tdiv_eq_ediv_of_nonneg, shr_u8_4, shl_u8_4, shr_u16_4, shl_u16_4, shr_u16_8, shl_u16_8, shr_u32_4, shl_u32_4, shr_u32_8, shl_u32_8, shr_u32_16, shl_u32_16, shr_u32_24, shl_u32_24, shr_u64_4, shl_u64_4, shr_u64_8, shl_u64_8, shr_u64_16, shl_u64_16, shr_u64_24, shl_u64_24, shr_u64_40, shl_u64_40, shr_i64_4, shl_i64_4, shr_i64_8, shl_i64_8, shr_i64_16, shl_i64_16, shr_i64_24, shl_i64_24, shr_i64_40, shl_i64_40]; omega)
    | ((with_reducible refine Arith.u64 ?_ ?_); simp (discharger := omega) only [Int.tdiv_eq_ediv_of_nonneg, shr_u8_4, shl_u8_4, shr_u16_4, shl_u16_4, shr_u16_8, shl_u16_8, shr_u32_4, shl_u32_4, shr_u32_8, shl_u32_8, shr_u32_16, shl_u32_16, shr_u32_24, shl_u32_24, shr_u64_4, shl_u64_4, shr_u64_8, shl_u64_8, shr_u64_16, shl_u64_16, shr_u64_24, shl_u64_24, shr_u64_40, shl_u64_40, shr_i64_4, shl_i64_4, shr_i64_8, shl_i64_8, shr_i64_16, shl_i64_16, shr_i64_24, shl_i64_24, shr_i64_40, shl_i64_40]; omega)
    | ((with_reducible refine Arith.u32 ?_ ?_); simp (discharger := omega) only [Int.tdiv_eq_ediv_of_nonneg, shr_u8_4, shl_u8_4, shr_u16_4, shl_u16_4, shr_u16_8, shl_u16_8, shr_u32_4, shl_u32_4, shr_u32_8, shl_u32_8, shr_u32_16, shl_u32_16, shr_u32_24, shl_u32_24, shr_u64_4, shl_u64_4, shr_u64_8, shl_u64_8, shr_u64_16, shl_u64_16, shr_u64_24, shl_u64_24, shr_u64_40, shl_u64_40, shr_i64_4, shl_i64_4, shr_i64_8, shl_i64_8, shr_i64_16, shl_i64_16, shr_i64_24, shl_i64_24, shr_i64_40, shl_i64_40]; omega)
    | ((with_reducible refine Arith.u16 ?_ ?_); simp (discharger := omega) only [Int.tdiv_eq_ediv_of_nonneg, shr_u8_4, shl_u8_4, shr_u16_4, shl_u16_4, shr_u16_8, shl_u16_8, shr_u32_4, shl_u32_4, shr_u32_8, shl_u32_8, shr_u32_16, shl_u32_16, shr_u32_24, shl_u32_24, shr_u64_4, shl_u64_4, shr_u64_8, shl_u64_8, shr_u64_16, shl_u64_16, shr_u64_24, shl_u64_24, shr_u64_40, shl_u64_40, shr_i64_4, shl_i64_4, shr_i64_8, shl_i64_8, shr_i64_16, shl_i64_16, shr_i64_24, shl_i64_24, shr_i64_40, shl_i64_40]; omega)
    | ((with_reducible refine Arith.u8 ?_ ?_); simp (discharger := omega) only [Int.tdiv_eq_ediv_of_nonneg, shr_u8_4, shl_u8_4, shr_u16_4, shl_u16_4, shr_u16_8, shl_u16_8, shr_u32_4, shl_u32_4, shr_u32_8, shl_u32_8, shr_u32_16, shl_u32_16, shr_u32_24, shl_u32_24, shr_u64_4, shl_u64_4, shr_u64_8, shl_u64_8, shr_u64_16, shl_u64_16, shr_u64_24, shl_u64_24, shr_u64_40, shl_u64_40, shr_i64_4, shl_i64_4, shr_i64_8, shl_i64_8, shr_i64_16, shl_i64_16, shr_i64_24, shl_i64_24, shr_i64_40, shl_i64_40]; omega)
    | (with_reducible refine Arith.mk ?_)
    | (with_reducible refine Ends.mk ?_))
  all_goals (refine ⟨?_, rfl⟩; simp [enc10, enc10e, hm, hw, hf]; done)
set_option maxHeartbeats 1000000 in
theorem renc_a (tos id : Int) (hold more : Bool) (at_ ttl proto fr to : Int) (o : ByteArray) (d : ByteArray) (htos : 0 ≤ tos ∧ tos ≤ 255) (hid : 0 ≤ id ∧ id ≤ 65535) (hat : -9223372036854775808 ≤ at_ ∧ at_ ≤ 9223372036854775807) (httl : 0 ≤ ttl ∧ ttl ≤ 255) (hproto : 0 ≤ proto ∧ proto ≤ 255) (hfr : 0 ≤ fr ∧ fr ≤ 4294967295) (hto : 0 ≤ to ∧ to ≤ 4294967295) (hd : d.size ≤ 1000000) (ho : o.size ≤ 1000000) (hm : may10 at_ o = false) : Det Try.prog 28 [.a (hdr tos id hold more at_ ttl proto fr to o), .o (.str d)] [] (.t [.o (.str (enc10 tos id hold more at_ ttl proto fr to o d)), .o (.int .i64 (enc10e more at_ o d))]) [] := by
  refine can_of_W known mix Try.func28 (by kernel_rfl) ok_ref10_Encode (Nat.le_of_ble_eq_true rfl) ?_
  repeat' ((conv => whnf); first
    | ((with_reducible refine Look.mk ?_); refine ⟨_, rfl, ?_⟩)
    | ((with_reducible refine LookN.zeros ?_))
    | ((with_reducible refine LookN.bytes ?_ ?_); (simp; done))
    | ((with_reducible refine BytesW.bytes ?_))
    | ((with_reducible refine Look.byte ?_ ?_); omega)
    | ((with_reducible refine Look.setb ?_ ?_ ?_); exact bv8_bd _; omega)
    | ((with_reducible refine LookN.setb ?_ ?_ ?_); exact bv8_bd _; omega)
    | ((with_reducible refine LookN.mk ?_); refine ⟨_, rfl, ?_⟩)
    | ((with_reducible refine Need.mk ?_ ?_); first | ((with_reducible refine needB ?_); kernel_rfl) | exact rfl | trivial | omega | exact Nat.le_of_ble_eq_true rfl | (exact ⟨rfl, by omega⟩) | (intro h; first | rfl | cases h) | (simp only [lenS_text, lenS_setN, lenS_zeros]; omega) | (simp only [ByteArray.size_append, size_lit, List.size_toArray, List.length_cons, List.length_nil, Sp.ofB_size]; omega))
    | ((with_reducible refine BytesW.mk ?_); refine ⟨_, rfl, ?_⟩)
    | (with_reducible refine CallW.det (rmay_det _ _ _ _ _ _ _ _ _ _ (by omega)) ?_)
    | (with_reducible refine CallW.det (rwhole_det _ _ _ _ _ _ _ _ _ _ _ (by omega)) ?_)
    | (with_reducible refine CallW.det (rfits_det _ _ _ _ _ _ _ _ _ _ _ (by omega) (by omega) (by omega)) ?_)
    | ((with_reducible refine Test.tmodEqT ?_ ?_ ?_); omega; focus omega)
    | ((with_reducible refine Test.tmodEqF ?_ ?_ ?_); omega; focus omega)
    | ((with_reducible refine Test.tmodNeT ?_ ?_ ?_); omega; focus omega)
    | ((with_reducible refine Test.tmodNeF ?_ ?_ ?_); omega; focus omega)
    | ((with_reducible refine Test.tmodEq ?_ (fun h => ?_) (fun h => ?_)); omega)
    | ((with_reducible refine Test.tmodNe ?_ (fun h => ?_) (fun h => ?_)); omega)
    | (with_reducible refine Test.shru8_4 (fun h => ?_) (fun h => ?_))
    | (with_reducible refine Test.shreu8_4 (fun h => ?_) (fun h => ?_))
    | ((with_reducible refine Test.notT ?_ ?_); focus assumption)
    | ((with_reducible refine Test.notF ?_ ?_); focus assumption)
    | (with_reducible refine Test.notIe (fun h => ?_) (fun h => ?_))
    | (with_reducible refine Test.notD (fun h => ?_) (fun h => ?_))
    | ((with_reducible refine Test.empty (fun h => ?_) (fun h => ?_)))
    | (with_reducible refine Test.tt ?_)
    | (with_reducible refine Test.ff ?_)
    | ((with_reducible refine Test.dt ?_ ?_); omega)
    | ((with_reducible refine Test.df ?_ ?_); omega)
    | (with_reducible refine Test.d (fun h => ?_) (fun h => ?_))
    | ((with_reducible refine Test.ieT ?_ ?_); omega)
    | ((with_reducible refine Test.ieF ?_ ?_); omega)
    | ((with_reducible refine Test.neT ?_ ?_); omega)
    | ((with_reducible refine Test.neF ?_ ?_); omega)
    | (with_reducible refine Test.ie (fun h => ?_) (fun h => ?_))
    | (with_reducible refine Test.ne (fun h => ?_) (fun h => ?_))
    | ((with_reducible refine Test.b ?_ ?_); (focus first | assumption | (simp [negB]; done) | exact rfl))
    | ((with_reducible refine Test.nb ?_ ?_); (focus first | assumption | (simp [negB]; done) | exact rfl))
    | (with_reducible refine Test.notS (fun h => ?_) (fun h => ?_))
    | (with_reducible refine Test.mk (fun h => ?_) (fun h => ?_))
    | ((with_reducible refine Arith.ori64_16384 ?_ ?_); omega)
    | ((with_reducible refine Arith.ori64_8192 ?_ ?_); omega)
    | ((with_reducible refine Arith.holdmore ?_ ?_); omega)
    | ((with_reducible refine Arith.ori64_64' ?_ ?_); omega)
    | ((with_reducible refine Arith.andu8_15 ?_ ?_); omega)
    | ((with_reducible refine Arith.andi64_8191 ?_ ?_); omega)
    | ((with_reducible refine Arith.biti64_16384 ?_ ?_); omega)
    | ((with_reducible refine Arith.biti64_8192 ?_ ?_); omega)
    | ((with_reducible refine Arith.biti64_32768 ?_ ?_); omega)
    | ((with_reducible refine Arith.tdiv ?_ ?_); omega)
    | (with_reducible refine Arith.bv8 ?_)
    | (with_reducible refine Arith.bv16 ?_)
    | (with_reducible refine Arith.bv32 ?_)
    | (with_reducible refine Arith.bv64 ?_)
    | ((with_reducible refine Arith.i64 ?_ ?_); omega)
    | ((with_reducible refine Arith.u64 ?_ ?_); omega)
    | ((with_reducible refine Arith.u32 ?_ ?_); omega)
    | ((with_reducible refine Arith.u16 ?_ ?_); omega)
    | ((with_reducible refine Arith.u8 ?_ ?_); omega)
    | ((with_reducible refine Arith.i32 ?_ ?_); omega)
    | ((with_reducible refine Arith.i64 ?_ ?_); simp (discharger := omega) only [Int.tdiv_eq_ediv_of_nonneg, shr_u8_4, shl_u8_4, shr_u16_4, shl_u16_4, shr_u16_8, shl_u16_8, shr_u32_4, shl_u32_4, shr_u32_8, shl_u32_8, shr_u32_16, shl_u32_16, shr_u32_24, shl_u32_24, shr_u64_4, shl_u64_4, shr_u64_8, shl_u64_8, shr_u64_16, shl_u64_16, shr_u64_24, shl_u64_24, shr_u64_40, shl_u64_40, shr_i64_4, shl_i64_4, shr_i64_8, shl_i64_8, shr_i64_16, shl_i64_16, shr_i64_24, shl_i64_24, shr_i64_40, shl_i64_40]; omega)
    | ((with_reducible refine Arith.u64 ?_ ?_); simp (discharger := omega) only [Int.tdiv_eq_ediv_of_nonneg, shr_u8_4, shl_u8_4, shr_u16_4, shl_u16_4, shr_u16_8, shl_u16_8, shr_u32_4, shl_u32_4, shr_u32_8, shl_u32_8, shr_u32_16, shl_u32_16, shr_u32_24, shl_u32_24, shr_u64_4, shl_u64_4, shr_u64_8, shl_u64_8, shr_u64_16, shl_u64_16, shr_u64_24, shl_u64_24, shr_u64_40, shl_u64_40, shr_i64_4, shl_i64_4, shr_i64_8, shl_i64_8, shr_i64_16, shl_i64_16, shr_i64_24, shl_i64_24, shr_i64_40, shl_i64_40]; omega)
    | ((with_reducible refine Arith.u32 ?_ ?_); simp (discharger := omega) only [Int.tdiv_eq_ediv_of_nonneg, shr_u8_4, shl_u8_4, shr_u16_4, shl_u16_4, shr_u16_8, shl_u16_8, shr_u32_4, shl_u32_4, shr_u32_8, shl_u32_8, shr_u32_16, shl_u32_16, shr_u32_24, shl_u32_24, shr_u64_4, shl_u64_4, shr_u64_8, shl_u64_8, shr_u64_16, shl_u64_16, shr_u64_24, shl_u64_24, shr_u64_40, shl_u64_40, shr_i64_4, shl_i64_4, shr_i64_8, shl_i64_8, shr_i64_16, shl_i64_16, shr_i64_24, shl_i64_24, shr_i64_40, shl_i64_40]; omega)
    | ((with_reducible refine Arith.u16 ?_ ?_); simp (discharger := omega) only [Int.tdiv_eq_ediv_of_nonneg, shr_u8_4, shl_u8_4, shr_u16_4, shl_u16_4, shr_u16_8, shl_u16_8, shr_u32_4, shl_u32_4, shr_u32_8, shl_u32_8, shr_u32_16, shl_u32_16, shr_u32_24, shl_u32_24, shr_u64_4, shl_u64_4, shr_u64_8, shl_u64_8, shr_u64_16, shl_u64_16, shr_u64_24, shl_u64_24, shr_u64_40, shl_u64_40, shr_i64_4, shl_i64_4, shr_i64_8, shl_i64_8, shr_i64_16, shl_i64_16, shr_i64_24, shl_i64_24, shr_i64_40, shl_i64_40]; omega)
    | ((with_reducible refine Arith.u8 ?_ ?_); simp (discharger := omega) only [Int.tdiv_eq_ediv_of_nonneg, shr_u8_4, shl_u8_4, shr_u16_4, shl_u16_4, shr_u16_8, shl_u16_8, shr_u32_4, shl_u32_4, shr_u32_8, shl_u32_8, shr_u32_16, shl_u32_16, shr_u32_24, shl_u32_24, shr_u64_4, shl_u64_4, shr_u64_8, shl_u64_8, shr_u64_16, shl_u64_16, shr_u64_24, shl_u64_24, shr_u64_40, shl_u64_40, shr_i64_4, shl_i64_4, shr_i64_8, shl_i64_8, shr_i64_16, shl_i64_16, shr_i64_24, shl_i64_24, shr_i64_40, shl_i64_40]; omega)
    | (with_reducible refine Arith.mk ?_)
    | (with_reducible refine Ends.mk ?_))
  all_goals (refine ⟨?_, rfl⟩; simp [enc10, enc10e, hm]; done)
set_option maxHeartbeats 1000000 in
theorem renc_b (tos id : Int) (hold more : Bool) (at_ ttl proto fr to : Int) (o : ByteArray) (d : ByteArray) (htos : 0 ≤ tos ∧ tos ≤ 255) (hid : 0 ≤ id ∧ id ≤ 65535) (hat : -9223372036854775808 ≤ at_ ∧ at_ ≤ 9223372036854775807) (httl : 0 ≤ ttl ∧ ttl ≤ 255) (hproto : 0 ≤ proto ∧ proto ≤ 255) (hfr : 0 ≤ fr ∧ fr ≤ 4294967295) (hto : 0 ≤ to ∧ to ≤ 4294967295) (hd : d.size ≤ 1000000) (ho : o.size ≤ 1000000) (hm : may10 at_ o = true) (hw : whole10 more d.size = false) : Det Try.prog 28 [.a (hdr tos id hold more at_ ttl proto fr to o), .o (.str d)] [] (.t [.o (.str (enc10 tos id hold more at_ ttl proto fr to o d)), .o (.int .i64 (enc10e more at_ o d))]) [] := by
  refine can_of_W known mix Try.func28 (by kernel_rfl) ok_ref10_Encode (Nat.le_of_ble_eq_true rfl) ?_
  repeat' ((conv => whnf); first
    | ((with_reducible refine Look.mk ?_); refine ⟨_, rfl, ?_⟩)
    | ((with_reducible refine LookN.zeros ?_))
    | ((with_reducible refine LookN.bytes ?_ ?_); (simp; done))
    | ((with_reducible refine BytesW.bytes ?_))
    | ((with_reducible refine Look.byte ?_ ?_); omega)
    | ((with_reducible refine Look.setb ?_ ?_ ?_); exact bv8_bd _; omega)
    | ((with_reducible refine LookN.setb ?_ ?_ ?_); exact bv8_bd _; omega)
    | ((with_reducible refine LookN.mk ?_); refine ⟨_, rfl, ?_⟩)
    | ((with_reducible refine Need.mk ?_ ?_); first | ((with_reducible refine needB ?_); kernel_rfl) | exact rfl | trivial | omega | exact Nat.le_of_ble_eq_true rfl | (exact ⟨rfl, by omega⟩) | (intro h; first | rfl | cases h) | (simp only [lenS_text, lenS_setN, lenS_zeros]; omega) | (simp only [ByteArray.size_append, size_lit, List.size_toArray, List.length_cons, List.length_nil, Sp.ofB_size]; omega))
    | ((with_reducible refine BytesW.mk ?_); refine ⟨_, rfl, ?_⟩)
    | (with_reducible refine CallW.det (rmay_det _ _ _ _ _ _ _ _ _ _ (by omega)) ?_)
    | (with_reducible refine CallW.det (rwhole_det _ _ _ _ _ _ _ _ _ _ _ (by omega)) ?_)
    | (with_reducible refine CallW.det (rfits_det _ _ _ _ _ _ _ _ _ _ _ (by omega) (by omega) (by omega)) ?_)
    | ((with_reducible refine Test.tmodEqT ?_ ?_ ?_); omega; focus omega)
    | ((with_reducible refine Test.tmodEqF ?_ ?_ ?_); omega; focus omega)
    | ((with_reducible refine Test.tmodNeT ?_ ?_ ?_); omega; focus omega)
    | ((with_reducible refine Test.tmodNeF ?_ ?_ ?_); omega; focus omega)
    | ((with_reducible refine Test.tmodEq ?_ (fun h => ?_) (fun h => ?_)); omega)
    | ((with_reducible refine Test.tmodNe ?_ (fun h => ?_) (fun h => ?_)); omega)
    | (with_reducible refine Test.shru8_4 (fun h => ?_) (fun h => ?_))
    | (with_reducible refine Test.shreu8_4 (fun h => ?_) (fun h => ?_))
    | ((with_reducible refine Test.notT ?_ ?_); focus assumption)
    | ((with_reducible refine Test.notF ?_ ?_); focus assumption)
    | (with_reducible refine Test.notIe (fun h => ?_) (fun h => ?_))
    | (with_reducible refine Test.notD (fun h => ?_) (fun h => ?_))
    | ((with_reducible refine Test.empty (fun h => ?_) (fun h => ?_)))
    | (with_reducible refine Test.tt ?_)
    | (with_reducible refine Test.ff ?_)
    | ((with_reducible refine Test.dt ?_ ?_); omega)
    | ((with_reducible refine Test.df ?_ ?_); omega)
    | (with_reducible refine Test.d (fun h => ?_) (fun h => ?_))
    | ((with_reducible refine Test.ieT ?_ ?_); omega)
    | ((with_reducible refine Test.ieF ?_ ?_); omega)
    | ((with_reducible refine Test.neT ?_ ?_); omega)
    | ((with_reducible refine Test.neF ?_ ?_); omega)
    | (with_reducible refine Test.ie (fun h => ?_) (fun h => ?_))
    | (with_reducible refine Test.ne (fun h => ?_) (fun h => ?_))
    | ((with_reducible refine Test.b ?_ ?_); (focus first | assumption | (simp [negB]; done) | exact rfl))
    | ((with_reducible refine Test.nb ?_ ?_); (focus first | assumption | (simp [negB]; done) | exact rfl))
    | (with_reducible refine Test.notS (fun h => ?_) (fun h => ?_))
    | (with_reducible refine Test.mk (fun h => ?_) (fun h => ?_))
    | ((with_reducible refine Arith.ori64_16384 ?_ ?_); omega)
    | ((with_reducible refine Arith.ori64_8192 ?_ ?_); omega)
    | ((with_reducible refine Arith.holdmore ?_ ?_); omega)
    | ((with_reducible refine Arith.ori64_64' ?_ ?_); omega)
    | ((with_reducible refine Arith.andu8_15 ?_ ?_); omega)
    | ((with_reducible refine Arith.andi64_8191 ?_ ?_); omega)
    | ((with_reducible refine Arith.biti64_16384 ?_ ?_); omega)
    | ((with_reducible refine Arith.biti64_8192 ?_ ?_); omega)
    | ((with_reducible refine Arith.biti64_32768 ?_ ?_); omega)
    | ((with_reducible refine Arith.tdiv ?_ ?_); omega)
    | (with_reducible refine Arith.bv8 ?_)
    | (with_reducible refine Arith.bv16 ?_)
    | (with_reducible refine Arith.bv32 ?_)
    | (with_reducible refine Arith.bv64 ?_)
    | ((with_reducible refine Arith.i64 ?_ ?_); omega)
    | ((with_reducible refine Arith.u64 ?_ ?_); omega)
    | ((with_reducible refine Arith.u32 ?_ ?_); omega)
    | ((with_reducible refine Arith.u16 ?_ ?_); omega)
    | ((with_reducible refine Arith.u8 ?_ ?_); omega)
    | ((with_reducible refine Arith.i32 ?_ ?_); omega)
    | ((with_reducible refine Arith.i64 ?_ ?_); simp (discharger := omega) only [Int.tdiv_eq_ediv_of_nonneg, shr_u8_4, shl_u8_4, shr_u16_4, shl_u16_4, shr_u16_8, shl_u16_8, shr_u32_4, shl_u32_4, shr_u32_8, shl_u32_8, shr_u32_16, shl_u32_16, shr_u32_24, shl_u32_24, shr_u64_4, shl_u64_4, shr_u64_8, shl_u64_8, shr_u64_16, shl_u64_16, shr_u64_24, shl_u64_24, shr_u64_40, shl_u64_40, shr_i64_4, shl_i64_4, shr_i64_8, shl_i64_8, shr_i64_16, shl_i64_16, shr_i64_24, shl_i64_24, shr_i64_40, shl_i64_40]; omega)
    | ((with_reducible refine Arith.u64 ?_ ?_); simp (discharger := omega) only [Int.tdiv_eq_ediv_of_nonneg, shr_u8_4, shl_u8_4, shr_u16_4, shl_u16_4, shr_u16_8, shl_u16_8, shr_u32_4, shl_u32_4, shr_u32_8, shl_u32_8, shr_u32_16, shl_u32_16, shr_u32_24, shl_u32_24, shr_u64_4, shl_u64_4, shr_u64_8, shl_u64_8, shr_u64_16, shl_u64_16, shr_u64_24, shl_u64_24, shr_u64_40, shl_u64_40, shr_i64_4, shl_i64_4, shr_i64_8, shl_i64_8, shr_i64_16, shl_i64_16, shr_i64_24, shl_i64_24, shr_i64_40, shl_i64_40]; omega)
    | ((with_reducible refine Arith.u32 ?_ ?_); simp (discharger := omega) only [Int.tdiv_eq_ediv_of_nonneg, shr_u8_4, shl_u8_4, shr_u16_4, shl_u16_4, shr_u16_8, shl_u16_8, shr_u32_4, shl_u32_4, shr_u32_8, shl_u32_8, shr_u32_16, shl_u32_16, shr_u32_24, shl_u32_24, shr_u64_4, shl_u64_4, shr_u64_8, shl_u64_8, shr_u64_16, shl_u64_16, shr_u64_24, shl_u64_24, shr_u64_40, shl_u64_40, shr_i64_4, shl_i64_4, shr_i64_8, shl_i64_8, shr_i64_16, shl_i64_16, shr_i64_24, shl_i64_24, shr_i64_40, shl_i64_40]; omega)
    | ((with_reducible refine Arith.u16 ?_ ?_); simp (discharger := omega) only [Int.tdiv_eq_ediv_of_nonneg, shr_u8_4, shl_u8_4, shr_u16_4, shl_u16_4, shr_u16_8, shl_u16_8, shr_u32_4, shl_u32_4, shr_u32_8, shl_u32_8, shr_u32_16, shl_u32_16, shr_u32_24, shl_u32_24, shr_u64_4, shl_u64_4, shr_u64_8, shl_u64_8, shr_u64_16, shl_u64_16, shr_u64_24, shl_u64_24, shr_u64_40, shl_u64_40, shr_i64_4, shl_i64_4, shr_i64_8, shl_i64_8, shr_i64_16, shl_i64_16, shr_i64_24, shl_i64_24, shr_i64_40, shl_i64_40]; omega)
    | ((with_reducible refine Arith.u8 ?_ ?_); simp (discharger := omega) only [Int.tdiv_eq_ediv_of_nonneg, shr_u8_4, shl_u8_4, shr_u16_4, shl_u16_4, shr_u16_8, shl_u16_8, shr_u32_4, shl_u32_4, shr_u32_8, shl_u32_8, shr_u32_16, shl_u32_16, shr_u32_24, shl_u32_24, shr_u64_4, shl_u64_4, shr_u64_8, shl_u64_8, shr_u64_16, shl_u64_16, shr_u64_24, shl_u64_24, shr_u64_40, shl_u64_40, shr_i64_4, shl_i64_4, shr_i64_8, shl_i64_8, shr_i64_16, shl_i64_16, shr_i64_24, shl_i64_24, shr_i64_40, shl_i64_40]; omega)
    | (with_reducible refine Arith.mk ?_)
    | (with_reducible refine Ends.mk ?_))
  all_goals (refine ⟨?_, rfl⟩; simp [enc10, enc10e, hm, hw]; done)
set_option maxHeartbeats 1000000 in
theorem renc_c (tos id : Int) (hold more : Bool) (at_ ttl proto fr to : Int) (o : ByteArray) (d : ByteArray) (htos : 0 ≤ tos ∧ tos ≤ 255) (hid : 0 ≤ id ∧ id ≤ 65535) (hat : -9223372036854775808 ≤ at_ ∧ at_ ≤ 9223372036854775807) (httl : 0 ≤ ttl ∧ ttl ≤ 255) (hproto : 0 ≤ proto ∧ proto ≤ 255) (hfr : 0 ≤ fr ∧ fr ≤ 4294967295) (hto : 0 ≤ to ∧ to ≤ 4294967295) (hd : d.size ≤ 1000000) (ho : o.size ≤ 1000000) (hm : may10 at_ o = true) (hw : whole10 more d.size = true) (hf : fits10 at_ d.size o = false) : Det Try.prog 28 [.a (hdr tos id hold more at_ ttl proto fr to o), .o (.str d)] [] (.t [.o (.str (enc10 tos id hold more at_ ttl proto fr to o d)), .o (.int .i64 (enc10e more at_ o d))]) [] := by
  have hmb := may10_bd hm
  refine can_of_W known mix Try.func28 (by kernel_rfl) ok_ref10_Encode (Nat.le_of_ble_eq_true rfl) ?_
  repeat' ((conv => whnf); first
    | ((with_reducible refine Look.mk ?_); refine ⟨_, rfl, ?_⟩)
    | ((with_reducible refine LookN.zeros ?_))
    | ((with_reducible refine LookN.bytes ?_ ?_); (simp; done))
    | ((with_reducible refine BytesW.bytes ?_))
    | ((with_reducible refine Look.byte ?_ ?_); omega)
    | ((with_reducible refine Look.setb ?_ ?_ ?_); exact bv8_bd _; omega)
    | ((with_reducible refine LookN.setb ?_ ?_ ?_); exact bv8_bd _; omega)
    | ((with_reducible refine LookN.mk ?_); refine ⟨_, rfl, ?_⟩)
    | ((with_reducible refine Need.mk ?_ ?_); first | ((with_reducible refine needB ?_); kernel_rfl) | exact rfl | trivial | omega | exact Nat.le_of_ble_eq_true rfl | (exact ⟨rfl, by omega⟩) | (intro h; first | rfl | cases h) | (simp only [lenS_text, lenS_setN, lenS_zeros]; omega) | (simp only [ByteArray.size_append, size_lit, List.size_toArray, List.length_cons, List.length_nil, Sp.ofB_size]; omega))
    | ((with_reducible refine BytesW.mk ?_); refine ⟨_, rfl, ?_⟩)
    | (with_reducible refine CallW.det (rmay_det _ _ _ _ _ _ _ _ _ _ (by omega)) ?_)
    | (with_reducible refine CallW.det (rwhole_det _ _ _ _ _ _ _ _ _ _ _ (by omega)) ?_)
    | (with_reducible refine CallW.det (rfits_det _ _ _ _ _ _ _ _ _ _ _ (by omega) (by omega) (by omega)) ?_)
    | ((with_reducible refine Test.tmodEqT ?_ ?_ ?_); omega; focus omega)
    | ((with_reducible refine Test.tmodEqF ?_ ?_ ?_); omega; focus omega)
    | ((with_reducible refine Test.tmodNeT ?_ ?_ ?_); omega; focus omega)
    | ((with_reducible refine Test.tmodNeF ?_ ?_ ?_); omega; focus omega)
    | ((with_reducible refine Test.tmodEq ?_ (fun h => ?_) (fun h => ?_)); omega)
    | ((with_reducible refine Test.tmodNe ?_ (fun h => ?_) (fun h => ?_)); omega)
    | (with_reducible refine Test.shru8_4 (fun h => ?_) (fun h => ?_))
    | (with_reducible refine Test.shreu8_4 (fun h => ?_) (fun h => ?_))
    | ((with_reducible refine Test.notT ?_ ?_); focus assumption)
    | ((with_reducible refine Test.notF ?_ ?_); focus assumption)
    | (with_reducible refine Test.notIe (fun h => ?_) (fun h => ?_))
    | (with_reducible refine Test.notD (fun h => ?_) (fun h => ?_))
    | ((with_reducible refine Test.empty (fun h => ?_) (fun h => ?_)))
    | (with_reducible refine Test.tt ?_)
    | (with_reducible refine Test.ff ?_)
    | ((with_reducible refine Test.dt ?_ ?_); omega)
    | ((with_reducible refine Test.df ?_ ?_); omega)
    | (with_reducible refine Test.d (fun h => ?_) (fun h => ?_))
    | ((with_reducible refine Test.ieT ?_ ?_); omega)
    | ((with_reducible refine Test.ieF ?_ ?_); omega)
    | ((with_reducible refine Test.neT ?_ ?_); omega)
    | ((with_reducible refine Test.neF ?_ ?_); omega)
    | (with_reducible refine Test.ie (fun h => ?_) (fun h => ?_))
    | (with_reducible refine Test.ne (fun h => ?_) (fun h => ?_))
    | ((with_reducible refine Test.b ?_ ?_); (focus first | assumption | (simp [negB]; done) | exact rfl))
    | ((with_reducible refine Test.nb ?_ ?_); (focus first | assumption | (simp [negB]; done) | exact rfl))
    | (with_reducible refine Test.notS (fun h => ?_) (fun h => ?_))
    | (with_reducible refine Test.mk (fun h => ?_) (fun h => ?_))
    | ((with_reducible refine Arith.ori64_16384 ?_ ?_); omega)
    | ((with_reducible refine Arith.ori64_8192 ?_ ?_); omega)
    | ((with_reducible refine Arith.holdmore ?_ ?_); omega)
    | ((with_reducible refine Arith.ori64_64' ?_ ?_); omega)
    | ((with_reducible refine Arith.andu8_15 ?_ ?_); omega)
    | ((with_reducible refine Arith.andi64_8191 ?_ ?_); omega)
    | ((with_reducible refine Arith.biti64_16384 ?_ ?_); omega)
    | ((with_reducible refine Arith.biti64_8192 ?_ ?_); omega)
    | ((with_reducible refine Arith.biti64_32768 ?_ ?_); omega)
    | ((with_reducible refine Arith.tdiv ?_ ?_); omega)
    | (with_reducible refine Arith.bv8 ?_)
    | (with_reducible refine Arith.bv16 ?_)
    | (with_reducible refine Arith.bv32 ?_)
    | (with_reducible refine Arith.bv64 ?_)
    | ((with_reducible refine Arith.i64 ?_ ?_); omega)
    | ((with_reducible refine Arith.u64 ?_ ?_); omega)
    | ((with_reducible refine Arith.u32 ?_ ?_); omega)
    | ((with_reducible refine Arith.u16 ?_ ?_); omega)
    | ((with_reducible refine Arith.u8 ?_ ?_); omega)
    | ((with_reducible refine Arith.i32 ?_ ?_); omega)
    | ((with_reducible refine Arith.i64 ?_ ?_); simp (discharger := omega) only [Int.tdiv_eq_ediv_of_nonneg, shr_u8_4, shl_u8_4, shr_u16_4, shl_u16_4, shr_u16_8, shl_u16_8, shr_u32_4, shl_u32_4, shr_u32_8, shl_u32_8, shr_u32_16, shl_u32_16, shr_u32_24, shl_u32_24, shr_u64_4, shl_u64_4, shr_u64_8, shl_u64_8, shr_u64_16, shl_u64_16, shr_u64_24, shl_u64_24, shr_u64_40, shl_u64_40, shr_i64_4, shl_i64_4, shr_i64_8, shl_i64_8, shr_i64_16, shl_i64_16, shr_i64_24, shl_i64_24, shr_i64_40, shl_i64_40]; omega)
    | ((with_reducible refine Arith.u64 ?_ ?_); simp (discharger := omega) only [Int.tdiv_eq_ediv_of_nonneg, shr_u8_4, shl_u8_4, shr_u16_4, shl_u16_4, shr_u16_8, shl_u16_8, shr_u32_4, shl_u32_4, shr_u32_8, shl_u32_8, shr_u32_16, shl_u32_16, shr_u32_24, shl_u32_24, shr_u64_4, shl_u64_4, shr_u64_8, shl_u64_8, shr_u64_16, shl_u64_16, shr_u64_24, shl_u64_24, shr_u64_40, shl_u64_40, shr_i64_4, shl_i64_4, shr_i64_8, shl_i64_8, shr_i64_16, shl_i64_16, shr_i64_24, shl_i64_24, shr_i64_40, shl_i64_40]; omega)
    | ((with_reducible refine Arith.u32 ?_ ?_); simp (discharger := omega) only [Int.tdiv_eq_ediv_of_nonneg, shr_u8_4, shl_u8_4, shr_u16_4, shl_u16_4, shr_u16_8, shl_u16_8, shr_u32_4, shl_u32_4, shr_u32_8, shl_u32_8, shr_u32_16, shl_u32_16, shr_u32_24, shl_u32_24, shr_u64_4, shl_u64_4, shr_u64_8, shl_u64_8, shr_u64_16, shl_u64_16, shr_u64_24, shl_u64_24, shr_u64_40, shl_u64_40, shr_i64_4, shl_i64_4, shr_i64_8, shl_i64_8, shr_i64_16, shl_i64_16, shr_i64_24, shl_i64_24, shr_i64_40, shl_i64_40]; omega)
    | ((with_reducible refine Arith.u16 ?_ ?_); simp (discharger := omega) only [Int.tdiv_eq_ediv_of_nonneg, shr_u8_4, shl_u8_4, shr_u16_4, shl_u16_4, shr_u16_8, shl_u16_8, shr_u32_4, shl_u32_4, shr_u32_8, shl_u32_8, shr_u32_16, shl_u32_16, shr_u32_24, shl_u32_24, shr_u64_4, shl_u64_4, shr_u64_8, shl_u64_8, shr_u64_16, shl_u64_16, shr_u64_24, shl_u64_24, shr_u64_40, shl_u64_40, shr_i64_4, shl_i64_4, shr_i64_8, shl_i64_8, shr_i64_16, shl_i64_16, shr_i64_24, shl_i64_24, shr_i64_40, shl_i64_40]; omega)
    | ((with_reducible refine Arith.u8 ?_ ?_); simp (discharger := omega) only [Int.tdiv_eq_ediv_of_nonneg, shr_u8_4, shl_u8_4, shr_u16_4, shl_u16_4, shr_u16_8, shl_u16_8, shr_u32_4, shl_u32_4, shr_u32_8, shl_u32_8, shr_u32_16, shl_u32_16, shr_u32_24, shl_u32_24, shr_u64_4, shl_u64_4, shr_u64_8, shl_u64_8, shr_u64_16, shl_u64_16, shr_u64_24, shl_u64_24, shr_u64_40, shl_u64_40, shr_i64_4, shl_i64_4, shr_i64_8, shl_i64_8, shr_i64_16, shl_i64_16, shr_i64_24, shl_i64_24, shr_i64_40, shl_i64_40]; omega)
    | (with_reducible refine Arith.mk ?_)
    | (with_reducible refine Ends.mk ?_))
  all_goals (refine ⟨?_, rfl⟩; simp [enc10, enc10e, hm, hw, hf]; done)
set_option maxHeartbeats 4000000 in
theorem enc_d (tos id : Int) (hold more : Bool) (at_ ttl proto fr to : Int) (o : ByteArray) (d : ByteArray) (htos : 0 ≤ tos ∧ tos ≤ 255) (hid : 0 ≤ id ∧ id ≤ 65535) (hat : -9223372036854775808 ≤ at_ ∧ at_ ≤ 9223372036854775807) (httl : 0 ≤ ttl ∧ ttl ≤ 255) (hproto : 0 ≤ proto ∧ proto ≤ 255) (hfr : 0 ≤ fr ∧ fr ≤ 4294967295) (hto : 0 ≤ to ∧ to ≤ 4294967295) (hd : d.size ≤ 1000000) (ho : o.size ≤ 1000000) (hm : may10 at_ o = true) (hw : whole10 more d.size = true) (hf : fits10 at_ d.size o = true) : Det Try.prog 26 [.a (hdr tos id hold more at_ ttl proto fr to o), .o (.str d)] [] (.t [.o (.str (enc10 tos id hold more at_ ttl proto fr to o d)), .o (.int .i64 (enc10e more at_ o d))]) [] := by
  have hmb := may10_bd hm
  have hfb := of_decide_eq_true hf
  have he : enc10e more at_ o d = 0 := by unfold enc10e; rw [hm, hw, hf]; rfl
  unfold enc10
  rw [he, if_pos rfl]
  clear he
  cases hold <;> cases more
  all_goals refine can_of_W known mix Try.func26 (by kernel_rfl) ok_ip4_Encode (Nat.le_of_ble_eq_true rfl) ?_
  all_goals repeat' ((conv => whnf); first
    | ((with_reducible refine Look.mk ?_); refine ⟨_, rfl, ?_⟩)
    | ((with_reducible refine LookN.zeros ?_))
    | ((with_reducible refine LookN.bytes ?_ ?_); (simp; done))
    | ((with_reducible refine BytesW.bytes ?_))
    | ((with_reducible refine Look.byte ?_ ?_); omega)
    | ((with_reducible refine Look.setb ?_ ?_ ?_); exact bv8_bd _; omega)
    | ((with_reducible refine LookN.setb ?_ ?_ ?_); exact bv8_bd _; omega)
    | ((with_reducible refine LookN.mk ?_); refine ⟨_, rfl, ?_⟩)
    | ((with_reducible refine Need.mk ?_ ?_); first | ((with_reducible refine needB ?_); kernel_rfl) | exact rfl | trivial | omega | exact Nat.le_of_ble_eq_true rfl | (exact ⟨rfl, by omega⟩) | (intro h; first | rfl | cases h) | (simp only [lenS_text, lenS_setN, lenS_zeros]; omega) | (simp only [ByteArray.size_append, size_lit, List.size_toArray, List.length_cons, List.length_nil, Sp.ofB_size]; omega))
    | ((with_reducible refine BytesW.mk ?_); refine ⟨_, rfl, ?_⟩)
    | (with_reducible refine CallW.det (may_det _ _ _ _ _ _ _ _ _ _ (by omega)) ?_)
    | (with_reducible refine CallW.det (whole_det _ _ _ _ _ _ _ _ _ _ _ (by omega)) ?_)
    | (with_reducible refine CallW.det (fits_det _ _ _ _ _ _ _ _ _ _ _ (by omega) (by omega) (by omega)) ?_)
    | (with_reducible refine CallW.det (wordOf2 _ (by first | omega | exact sumB64 _)) ?_)
    | (with_reducible refine CallW.det (wordOf4 _ (by omega)) ?_)
    | (with_reducible refine CallW.det (sumOf2 _ _ _ _ (by simp only [ByteArray.size_append, size_lit, List.size_toArray, List.length_cons, List.length_nil, Sp.ofB_size]; omega)) ?_)
    | ((with_reducible refine Arith.u64 ?_ ?_); exact sumB64 _)
    | ((with_reducible refine Arith.u16 ?_ ?_); exact sumB_le _)
    | ((with_reducible refine Test.tmodEqT ?_ ?_ ?_); omega; focus omega)
    | ((with_reducible refine Test.tmodEqF ?_ ?_ ?_); omega; focus omega)
    | ((with_reducible refine Test.tmodNeT ?_ ?_ ?_); omega; focus omega)
    | ((with_reducible refine Test.tmodNeF ?_ ?_ ?_); omega; focus omega)
    | ((with_reducible refine Test.tmodEq ?_ (fun h => ?_) (fun h => ?_)); omega)
    | ((with_reducible refine Test.tmodNe ?_ (fun h => ?_) (fun h => ?_)); omega)
    | (with_reducible refine Test.shru8_4 (fun h => ?_) (fun h => ?_))
    | (with_reducible refine Test.shreu8_4 (fun h => ?_) (fun h => ?_))
    | ((with_reducible refine Test.notT ?_ ?_); focus assumption)
    | ((with_reducible refine Test.notF ?_ ?_); focus assumption)
    | (with_reducible refine Test.notIe (fun h => ?_) (fun h => ?_))
    | (with_reducible refine Test.notD (fun h => ?_) (fun h => ?_))
    | ((with_reducible refine Test.empty (fun h => ?_) (fun h => ?_)))
    | (with_reducible refine Test.tt ?_)
    | (with_reducible refine Test.ff ?_)
    | ((with_reducible refine Test.dt ?_ ?_); omega)
    | ((with_reducible refine Test.df ?_ ?_); omega)
    | (with_reducible refine Test.d (fun h => ?_) (fun h => ?_))
    | ((with_reducible refine Test.ieT ?_ ?_); omega)
    | ((with_reducible refine Test.ieF ?_ ?_); omega)
    | ((with_reducible refine Test.neT ?_ ?_); omega)
    | ((with_reducible refine Test.neF ?_ ?_); omega)
    | (with_reducible refine Test.ie (fun h => ?_) (fun h => ?_))
    | (with_reducible refine Test.ne (fun h => ?_) (fun h => ?_))
    | ((with_reducible refine Test.b ?_ ?_); (focus first | assumption | (simp [negB]; done) | exact rfl))
    | ((with_reducible refine Test.nb ?_ ?_); (focus first | assumption | (simp [negB]; done) | exact rfl))
    | (with_reducible refine Test.notS (fun h => ?_) (fun h => ?_))
    | (with_reducible refine Test.mk (fun h => ?_) (fun h => ?_))
    | ((with_reducible refine Arith.ori64_16384 ?_ ?_); omega)
    | ((with_reducible refine Arith.ori64_8192 ?_ ?_); omega)
    | ((with_reducible refine Arith.holdmore ?_ ?_); omega)
    | ((with_reducible refine Arith.ori64_64' ?_ ?_); omega)
    | ((with_reducible refine Arith.andu8_15 ?_ ?_); omega)
    | ((with_reducible refine Arith.andi64_8191 ?_ ?_); omega)
    | ((with_reducible refine Arith.biti64_16384 ?_ ?_); omega)
    | ((with_reducible refine Arith.biti64_8192 ?_ ?_); omega)
    | ((with_reducible refine Arith.biti64_32768 ?_ ?_); omega)
    | ((with_reducible refine Arith.tdiv ?_ ?_); omega)
    | (with_reducible refine Arith.bv8 ?_)
    | (with_reducible refine Arith.bv16 ?_)
    | (with_reducible refine Arith.bv32 ?_)
    | (with_reducible refine Arith.bv64 ?_)
    | ((with_reducible refine Arith.i64 ?_ ?_); omega)
    | ((with_reducible refine Arith.u64 ?_ ?_); omega)
    | ((with_reducible refine Arith.u32 ?_ ?_); omega)
    | ((with_reducible refine Arith.u16 ?_ ?_); omega)
    | ((with_reducible refine Arith.u8 ?_ ?_); omega)
    | ((with_reducible refine Arith.i32 ?_ ?_); omega)
    | ((with_reducible refine Arith.i64 ?_ ?_); simp (discharger := omega) only [Int.tdiv_eq_ediv_of_nonneg, shr_u8_4, shl_u8_4, shr_u16_4, shl_u16_4, shr_u16_8, shl_u16_8, shr_u32_4, shl_u32_4, shr_u32_8, shl_u32_8, shr_u32_16, shl_u32_16, shr_u32_24, shl_u32_24, shr_u64_4, shl_u64_4, shr_u64_8, shl_u64_8, shr_u64_16, shl_u64_16, shr_u64_24, shl_u64_24, shr_u64_40, shl_u64_40, shr_i64_4, shl_i64_4, shr_i64_8, shl_i64_8, shr_i64_16, shl_i64_16, shr_i64_24, shl_i64_24, shr_i64_40, shl_i64_40]; omega)
    | ((with_reducible refine Arith.u64 ?_ ?_); simp (discharger := omega) only [Int.tdiv_eq_ediv_of_nonneg, shr_u8_4, shl_u8_4, shr_u16_4, shl_u16_4, shr_u16_8, shl_u16_8, shr_u32_4, shl_u32_4, shr_u32_8, shl_u32_8, shr_u32_16, shl_u32_16, shr_u32_24, shl_u32_24, shr_u64_4, shl_u64_4, shr_u64_8, shl_u64_8, shr_u64_16, shl_u64_16, shr_u64_24, shl_u64_24, shr_u64_40, shl_u64_40, shr_i64_4, shl_i64_4, shr_i64_8, shl_i64_8, shr_i64_16, shl_i64_16, shr_i64_24, shl_i64_24, shr_i64_40, shl_i64_40]; omega)
    | ((with_reducible refine Arith.u32 ?_ ?_); simp (discharger := omega) only [Int.tdiv_eq_ediv_of_nonneg, shr_u8_4, shl_u8_4, shr_u16_4, shl_u16_4, shr_u16_8, shl_u16_8, shr_u32_4, shl_u32_4, shr_u32_8, shl_u32_8, shr_u32_16, shl_u32_16, shr_u32_24, shl_u32_24, shr_u64_4, shl_u64_4, shr_u64_8, shl_u64_8, shr_u64_16, shl_u64_16, shr_u64_24, shl_u64_24, shr_u64_40, shl_u64_40, shr_i64_4, shl_i64_4, shr_i64_8, shl_i64_8, shr_i64_16, shl_i64_16, shr_i64_24, shl_i64_24, shr_i64_40, shl_i64_40]; omega)
    | ((with_reducible refine Arith.u16 ?_ ?_); simp (discharger := omega) only [Int.tdiv_eq_ediv_of_nonneg, shr_u8_4, shl_u8_4, shr_u16_4, shl_u16_4, shr_u16_8, shl_u16_8, shr_u32_4, shl_u32_4, shr_u32_8, shl_u32_8, shr_u32_16, shl_u32_16, shr_u32_24, shl_u32_24, shr_u64_4, shl_u64_4, shr_u64_8, shl_u64_8, shr_u64_16, shl_u64_16, shr_u64_24, shl_u64_24, shr_u64_40, shl_u64_40, shr_i64_4, shl_i64_4, shr_i64_8, shl_i64_8, shr_i64_16, shl_i64_16, shr_i64_24, shl_i64_24, shr_i64_40, shl_i64_40]; omega)
    | ((with_reducible refine Arith.u8 ?_ ?_); simp (discharger := omega) only [Int.tdiv_eq_ediv_of_nonneg, shr_u8_4, shl_u8_4, shr_u16_4, shl_u16_4, shr_u16_8, shl_u16_8, shr_u32_4, shl_u32_4, shr_u32_8, shl_u32_8, shr_u32_16, shl_u32_16, shr_u32_24, shl_u32_24, shr_u64_4, shl_u64_4, shr_u64_8, shl_u64_8, shr_u64_16, shl_u64_16, shr_u64_24, shl_u64_24, shr_u64_40, shl_u64_40, shr_i64_4, shl_i64_4, shr_i64_8, shl_i64_8, shr_i64_16, shl_i64_16, shr_i64_24, shl_i64_24, shr_i64_40, shl_i64_40]; omega)
    | (with_reducible refine Arith.mk ?_)
    | (with_reducible refine Ends.mk ?_))
  all_goals (refine ⟨?_, rfl⟩; simp only [raw10, sum10, front10, back10, flags10]; done)
set_option maxHeartbeats 4000000 in
theorem rraw_d (tos id : Int) (hold more : Bool) (at_ ttl proto fr to : Int) (o : ByteArray) (d : ByteArray) (htos : 0 ≤ tos ∧ tos ≤ 255) (hid : 0 ≤ id ∧ id ≤ 65535) (hat : -9223372036854775808 ≤ at_ ∧ at_ ≤ 9223372036854775807) (httl : 0 ≤ ttl ∧ ttl ≤ 255) (hproto : 0 ≤ proto ∧ proto ≤ 255) (hfr : 0 ≤ fr ∧ fr ≤ 4294967295) (hto : 0 ≤ to ∧ to ≤ 4294967295) (hd : d.size ≤ 1000000) (ho : o.size ≤ 1000000) (hm : 0 ≤ at_ ∧ at_ ≤ 65535) (ho4 : (o.size : Int) ≤ 40) : Det Try.prog 65 [.a (hdr tos id hold more at_ ttl proto fr to o), .o (.str d)] [] (vS (raw10 tos id hold more at_ ttl proto fr to o d)) [] := by
  have hz := sum_zero (front10 tos id hold more at_ ttl proto (20 + o.size) d.size) (back10 fr to o) (by rw [front10_size])
  cases hold <;> cases more
  all_goals refine can_of_W known mix Try.func65 (by kernel_rfl) ok_ref10_Raw (Nat.le_of_ble_eq_true rfl) ?_
  all_goals repeat' ((conv => whnf); first
    | ((with_reducible refine Look.mk ?_); refine ⟨_, rfl, ?_⟩)
    | ((with_reducible refine LookN.zeros ?_))
    | ((with_reducible refine LookN.bytes ?_ ?_); (simp; done))
    | ((with_reducible refine BytesW.bytes ?_))
    | ((with_reducible refine Look.byte ?_ ?_); omega)
    | ((with_reducible refine Look.setb ?_ ?_ ?_); exact bv8_bd _; omega)
    | ((with_reducible refine LookN.setb ?_ ?_ ?_); exact bv8_bd _; omega)
    | ((with_reducible refine LookN.mk ?_); refine ⟨_, rfl, ?_⟩)
    | ((with_reducible refine Need.mk ?_ ?_); first | ((with_reducible refine needB ?_); kernel_rfl) | exact rfl | trivial | omega | exact Nat.le_of_ble_eq_true rfl | (exact ⟨rfl, by omega⟩) | (intro h; first | rfl | cases h) | (simp only [lenS_text, lenS_setN, lenS_zeros]; omega) | (simp only [ByteArray.size_append, size_lit, List.size_toArray, List.length_cons, List.length_nil, Sp.ofB_size]; omega))
    | ((with_reducible refine BytesW.mk ?_); refine ⟨_, rfl, ?_⟩)
    | (with_reducible refine CallW.det (rmay_det _ _ _ _ _ _ _ _ _ _ (by omega)) ?_)
    | (with_reducible refine CallW.det (rwhole_det _ _ _ _ _ _ _ _ _ _ _ (by omega)) ?_)
    | (with_reducible refine CallW.det (rfits_det _ _ _ _ _ _ _ _ _ _ _ (by omega) (by omega) (by omega)) ?_)
    | (with_reducible refine CallW.det (rOf2 _ (by first | omega | exact sumB64 _)) ?_)
    | (with_reducible refine CallW.det (rOf4 _ (by omega)) ?_)
    | (with_reducible refine CallW.det (rSum _ (by simp only [ByteArray.size_append, size_lit, List.size_toArray, List.length_cons, List.length_nil, Sp.ofB_size]; unfold maxLen; omega)) ?_)
    | ((with_reducible refine Arith.u64 ?_ ?_); exact sumB64 _)
    | ((with_reducible refine Arith.u16 ?_ ?_); exact sumB_le _)
    | ((with_reducible refine Test.tmodEqT ?_ ?_ ?_); omega; focus omega)
    | ((with_reducible refine Test.tmodEqF ?_ ?_ ?_); omega; focus omega)
    | ((with_reducible refine Test.tmodNeT ?_ ?_ ?_); omega; focus omega)
    | ((with_reducible refine Test.tmodNeF ?_ ?_ ?_); omega; focus omega)
    | ((with_reducible refine Test.tmodEq ?_ (fun h => ?_) (fun h => ?_)); omega)
    | ((with_reducible refine Test.tmodNe ?_ (fun h => ?_) (fun h => ?_)); omega)
    | (with_reducible refine Test.shru8_4 (fun h => ?_) (fun h => ?_))
    | (with_reducible refine Test.shreu8_4 (fun h => ?_) (fun h => ?_))
    | ((with_reducible refine Test.notT ?_ ?_); focus assumption)
    | ((with_reducible refine Test.notF ?_ ?_); focus assumption)
    | (with_reducible refine Test.notIe (fun h => ?_) (fun h => ?_))
    | (with_reducible refine Test.notD (fun h => ?_) (fun h => ?_))
    | ((with_reducible refine Test.empty (fun h => ?_) (fun h => ?_)))
    | (with_reducible refine Test.tt ?_)
    | (with_reducible refine Test.ff ?_)
    | ((with_reducible refine Test.dt ?_ ?_); omega)
    | ((with_reducible refine Test.df ?_ ?_); omega)
    | (with_reducible refine Test.d (fun h => ?_) (fun h => ?_))
    | ((with_reducible refine Test.ieT ?_ ?_); omega)
    | ((with_reducible refine Test.ieF ?_ ?_); omega)
    | ((with_reducible refine Test.neT ?_ ?_); omega)
    | ((with_reducible refine Test.neF ?_ ?_); omega)
    | (with_reducible refine Test.ie (fun h => ?_) (fun h => ?_))
    | (with_reducible refine Test.ne (fun h => ?_) (fun h => ?_))
    | ((with_reducible refine Test.b ?_ ?_); (focus first | assumption | (simp [negB]; done) | exact rfl))
    | ((with_reducible refine Test.nb ?_ ?_); (focus first | assumption | (simp [negB]; done) | exact rfl))
    | (with_reducible refine Test.notS (fun h => ?_) (fun h => ?_))
    | (with_reducible refine Test.mk (fun h => ?_) (fun h => ?_))
    | ((with_reducible refine Arith.ori64_16384 ?_ ?_); omega)
    | ((with_reducible refine Arith.ori64_8192 ?_ ?_); omega)
    | ((with_reducible refine Arith.holdmore ?_ ?_); omega)
    | ((with_reducible refine Arith.ori64_64' ?_ ?_); omega)
    | ((with_reducible refine Arith.andu8_15 ?_ ?_); omega)
    | ((with_reducible refine Arith.andi64_8191 ?_ ?_); omega)
    | ((with_reducible refine Arith.biti64_16384 ?_ ?_); omega)
    | ((with_reducible refine Arith.biti64_8192 ?_ ?_); omega)
    | ((with_reducible refine Arith.biti64_32768 ?_ ?_); omega)
    | ((with_reducible refine Arith.tdiv ?_ ?_); omega)
    | (with_reducible refine Arith.bv8 ?_)
    | (with_reducible refine Arith.bv16 ?_)
    | (with_reducible refine Arith.bv32 ?_)
    | (with_reducible refine Arith.bv64 ?_)
    | ((with_reducible refine Arith.i64 ?_ ?_); omega)
    | ((with_reducible refine Arith.u64 ?_ ?_); omega)
    | ((with_reducible refine Arith.u32 ?_ ?_); omega)
    | ((with_reducible refine Arith.u16 ?_ ?_); omega)
    | ((with_reducible refine Arith.u8 ?_ ?_); omega)
    | ((with_reducible refine Arith.i32 ?_ ?_); omega)
    | ((with_reducible refine Arith.i64 ?_ ?_); simp (discharger := omega) only [Int.tdiv_eq_ediv_of_nonneg, shr_u8_4, shl_u8_4, shr_u16_4, shl_u16_4, shr_u16_8, shl_u16_8, shr_u32_4, shl_u32_4, shr_u32_8, shl_u32_8, shr_u32_16, shl_u32_16, shr_u32_24, shl_u32_24, shr_u64_4, shl_u64_4, shr_u64_8, shl_u64_8, shr_u64_16, shl_u64_16, shr_u64_24, shl_u64_24, shr_u64_40, shl_u64_40, shr_i64_4, shl_i64_4, shr_i64_8, shl_i64_8, shr_i64_16, shl_i64_16, shr_i64_24, shl_i64_24, shr_i64_40, shl_i64_40]; omega)
    | ((with_reducible refine Arith.u64 ?_ ?_); simp (discharger := omega) only [Int.tdiv_eq_ediv_of_nonneg, shr_u8_4, shl_u8_4, shr_u16_4, shl_u16_4, shr_u16_8, shl_u16_8, shr_u32_4, shl_u32_4, shr_u32_8, shl_u32_8, shr_u32_16, shl_u32_16, shr_u32_24, shl_u32_24, shr_u64_4, shl_u64_4, shr_u64_8, shl_u64_8, shr_u64_16, shl_u64_16, shr_u64_24, shl_u64_24, shr_u64_40, shl_u64_40, shr_i64_4, shl_i64_4, shr_i64_8, shl_i64_8, shr_i64_16, shl_i64_16, shr_i64_24, shl_i64_24, shr_i64_40, shl_i64_40]; omega)
    | ((with_reducible refine Arith.u32 ?_ ?_); simp (discharger := omega) only [Int.tdiv_eq_ediv_of_nonneg, shr_u8_4, shl_u8_4, shr_u16_4, shl_u16_4, shr_u16_8, shl_u16_8, shr_u32_4, shl_u32_4, shr_u32_8, shl_u32_8, shr_u32_16, shl_u32_16, shr_u32_24, shl_u32_24, shr_u64_4, shl_u64_4, shr_u64_8, shl_u64_8, shr_u64_16, shl_u64_16, shr_u64_24, shl_u64_24, shr_u64_40, shl_u64_40, shr_i64_4, shl_i64_4, shr_i64_8, shl_i64_8, shr_i64_16, shl_i64_16, shr_i64_24, shl_i64_24, shr_i64_40, shl_i64_40]; omega)
    | ((with_reducible refine Arith.u16 ?_ ?_); simp (discharger := omega) only [Int.tdiv_eq_ediv_of_nonneg, shr_u8_4, shl_u8_4, shr_u16_4, shl_u16_4, shr_u16_8, shl_u16_8, shr_u32_4, shl_u32_4, shr_u32_8, shl_u32_8, shr_u32_16, shl_u32_16, shr_u32_24, shl_u32_24, shr_u64_4, shl_u64_4, shr_u64_8, shl_u64_8, shr_u64_16, shl_u64_16, shr_u64_24, shl_u64_24, shr_u64_40, shl_u64_40, shr_i64_4, shl_i64_4, shr_i64_8, shl_i64_8, shr_i64_16, shl_i64_16, shr_i64_24, shl_i64_24, shr_i64_40, shl_i64_40]; omega)
    | ((with_reducible refine Arith.u8 ?_ ?_); simp (discharger := omega) only [Int.tdiv_eq_ediv_of_nonneg, shr_u8_4, shl_u8_4, shr_u16_4, shl_u16_4, shr_u16_8, shl_u16_8, shr_u32_4, shl_u32_4, shr_u32_8, shl_u32_8, shr_u32_16, shl_u32_16, shr_u32_24, shl_u32_24, shr_u64_4, shl_u64_4, shr_u64_8, shl_u64_8, shr_u64_16, shl_u64_16, shr_u64_24, shl_u64_24, shr_u64_40, shl_u64_40, shr_i64_4, shl_i64_4, shr_i64_8, shl_i64_8, shr_i64_16, shl_i64_16, shr_i64_24, shl_i64_24, shr_i64_40, shl_i64_40]; omega)
    | (with_reducible refine Arith.mk ?_)
    | (with_reducible refine Ends.mk ?_))
  all_goals (refine ⟨?_, rfl⟩; simp only [app_assoc, front10, back10, flags10] at hz; simp only [app_assoc, raw10, sum10, front10, back10, flags10, hz]; done)
theorem enc10_yes {more : Bool} {at_ : Int} {o d : ByteArray} (hm : may10 at_ o = true) (hw : whole10 more d.size = true) (hf : fits10 at_ d.size o = true) : enc10e more at_ o d = 0 := by unfold enc10e; rw [hm, hw, hf]; rfl
theorem enc10_ok {more : Bool} {at_ : Int} {o d : ByteArray} (h : enc10e more at_ o d = 0) : may10 at_ o = true ∧ whole10 more d.size = true ∧ fits10 at_ d.size o = true := by
  unfold enc10e at h
  split at h
  · rename_i h1
    rw [Bool.and_eq_true] at h1
    split at h
    · rename_i h2; exact ⟨h1.1, h1.2, h2⟩
    · cases h
  · cases h
theorem enc_det (tos id : Int) (hold more : Bool) (at_ ttl proto fr to : Int) (o : ByteArray) (d : ByteArray) (htos : 0 ≤ tos ∧ tos ≤ 255) (hid : 0 ≤ id ∧ id ≤ 65535) (hat : -9223372036854775808 ≤ at_ ∧ at_ ≤ 9223372036854775807) (httl : 0 ≤ ttl ∧ ttl ≤ 255) (hproto : 0 ≤ proto ∧ proto ≤ 255) (hfr : 0 ≤ fr ∧ fr ≤ 4294967295) (hto : 0 ≤ to ∧ to ≤ 4294967295) (hd : d.size ≤ 1000000) (ho : o.size ≤ 1000000) : Det Try.prog 26 [.a (hdr tos id hold more at_ ttl proto fr to o), .o (.str d)] [] (.t [.o (.str (enc10 tos id hold more at_ ttl proto fr to o d)), .o (.int .i64 (enc10e more at_ o d))]) [] := by
  cases hm : may10 at_ o with
  | false => exact enc_a _ _ _ _ _ _ _ _ _ _ _ htos hid hat httl hproto hfr hto hd ho hm
  | true => cases hw : whole10 more d.size with
    | false => exact enc_b _ _ _ _ _ _ _ _ _ _ _ htos hid hat httl hproto hfr hto hd ho hm hw
    | true => cases hf : fits10 at_ d.size o with
      | false => exact enc_c _ _ _ _ _ _ _ _ _ _ _ htos hid hat httl hproto hfr hto hd ho hm hw hf
      | true => exact enc_d _ _ _ _ _ _ _ _ _ _ _ htos hid hat httl hproto hfr hto hd ho hm hw hf
set_option maxHeartbeats 1000000 in
theorem renc_d (tos id : Int) (hold more : Bool) (at_ ttl proto fr to : Int) (o : ByteArray) (d : ByteArray) (htos : 0 ≤ tos ∧ tos ≤ 255) (hid : 0 ≤ id ∧ id ≤ 65535) (hat : -9223372036854775808 ≤ at_ ∧ at_ ≤ 9223372036854775807) (httl : 0 ≤ ttl ∧ ttl ≤ 255) (hproto : 0 ≤ proto ∧ proto ≤ 255) (hfr : 0 ≤ fr ∧ fr ≤ 4294967295) (hto : 0 ≤ to ∧ to ≤ 4294967295) (hd : d.size ≤ 1000000) (ho : o.size ≤ 1000000) (hm : may10 at_ o = true) (hw : whole10 more d.size = true) (hf : fits10 at_ d.size o = true) : Det Try.prog 28 [.a (hdr tos id hold more at_ ttl proto fr to o), .o (.str d)] [] (.t [.o (.str (enc10 tos id hold more at_ ttl proto fr to o d)), .o (.int .i64 (enc10e more at_ o d))]) [] := by
  have hmb := may10_bd hm
  have he := enc10_yes hm hw hf
  unfold enc10
  rw [he, if_pos rfl]
  refine can_of_W known mix Try.func28 (by kernel_rfl) ok_ref10_Encode (Nat.le_of_ble_eq_true rfl) ?_
  repeat' ((conv => whnf); first
    | ((with_reducible refine Look.mk ?_); refine ⟨_, rfl, ?_⟩)
    | ((with_reducible refine LookN.zeros ?_))
    | ((with_reducible refine LookN.bytes ?_ ?_); (simp; done))
    | ((with_reducible refine BytesW.bytes ?_))
    | ((with_reducible refine Look.byte ?_ ?_); omega)
    | ((with_reducible refine Look.setb ?_ ?_ ?_); exact bv8_bd _; omega)
    | ((with_reducible refine LookN.setb ?_ ?_ ?_); exact bv8_bd _; omega)
    | ((with_reducible refine LookN.mk ?_); refine ⟨_, rfl, ?_⟩)
    | ((with_reducible refine Need.mk ?_ ?_); first | ((with_reducible refine needB ?_); kernel_rfl) | exact rfl | trivial | omega | exact Nat.le_of_ble_eq_true rfl | (exact ⟨rfl, by omega⟩) | (intro h; first | rfl | cases h) | (simp only [lenS_text, lenS_setN, lenS_zeros]; omega) | (simp only [ByteArray.size_append, size_lit, List.size_toArray, List.length_cons, List.length_nil, Sp.ofB_size]; omega))
    | ((with_reducible refine BytesW.mk ?_); refine ⟨_, rfl, ?_⟩)
    | (with_reducible refine CallW.det (rmay_det _ _ _ _ _ _ _ _ _ _ (by omega)) ?_)
    | (with_reducible refine CallW.det (rwhole_det _ _ _ _ _ _ _ _ _ _ _ (by omega)) ?_)
    | (with_reducible refine CallW.det (rfits_det _ _ _ _ _ _ _ _ _ _ _ (by omega) (by omega) (by omega)) ?_)
    | (with_reducible refine CallW.det (rraw_d _ _ _ _ _ _ _ _ _ _ _ htos hid hat httl hproto hfr hto hd ho (by omega) (by omega)) ?_)
    | ((with_reducible refine Test.tmodEqT ?_ ?_ ?_); omega; focus omega)
    | ((with_reducible refine Test.tmodEqF ?_ ?_ ?_); omega; focus omega)
    | ((with_reducible refine Test.tmodNeT ?_ ?_ ?_); omega; focus omega)
    | ((with_reducible refine Test.tmodNeF ?_ ?_ ?_); omega; focus omega)
    | ((with_reducible refine Test.tmodEq ?_ (fun h => ?_) (fun h => ?_)); omega)
    | ((with_reducible refine Test.tmodNe ?_ (fun h => ?_) (fun h => ?_)); omega)
    | (with_reducible refine Test.shru8_4 (fun h => ?_) (fun h => ?_))
    | (with_reducible refine Test.shreu8_4 (fun h => ?_) (fun h => ?_))
    | ((with_reducible refine Test.notT ?_ ?_); focus assumption)
    | ((with_reducible refine Test.notF ?_ ?_); focus assumption)
    | (with_reducible refine Test.notIe (fun h => ?_) (fun h => ?_))
    | (with_reducible refine Test.notD (fun h => ?_) (fun h => ?_))
    | ((with_reducible refine Test.empty (fun h => ?_) (fun h => ?_)))
    | (with_reducible refine Test.tt ?_)
    | (with_reducible refine Test.ff ?_)
    | ((with_reducible refine Test.dt ?_ ?_); omega)
    | ((with_reducible refine Test.df ?_ ?_); omega)
    | (with_reducible refine Test.d (fun h => ?_) (fun h => ?_))
    | ((with_reducible refine Test.ieT ?_ ?_); omega)
    | ((with_reducible refine Test.ieF ?_ ?_); omega)
    | ((with_reducible refine Test.neT ?_ ?_); omega)
    | ((with_reducible refine Test.neF ?_ ?_); omega)
    | (with_reducible refine Test.ie (fun h => ?_) (fun h => ?_))
    | (with_reducible refine Test.ne (fun h => ?_) (fun h => ?_))
    | ((with_reducible refine Test.b ?_ ?_); (focus first | assumption | (simp [negB]; done) | exact rfl))
    | ((with_reducible refine Test.nb ?_ ?_); (focus first | assumption | (simp [negB]; done) | exact rfl))
    | (with_reducible refine Test.notS (fun h => ?_) (fun h => ?_))
    | (with_reducible refine Test.mk (fun h => ?_) (fun h => ?_))
    | ((with_reducible refine Arith.ori64_16384 ?_ ?_); omega)
    | ((with_reducible refine Arith.ori64_8192 ?_ ?_); omega)
    | ((with_reducible refine Arith.holdmore ?_ ?_); omega)
    | ((with_reducible refine Arith.ori64_64' ?_ ?_); omega)
    | ((with_reducible refine Arith.andu8_15 ?_ ?_); omega)
    | ((with_reducible refine Arith.andi64_8191 ?_ ?_); omega)
    | ((with_reducible refine Arith.biti64_16384 ?_ ?_); omega)
    | ((with_reducible refine Arith.biti64_8192 ?_ ?_); omega)
    | ((with_reducible refine Arith.biti64_32768 ?_ ?_); omega)
    | ((with_reducible refine Arith.tdiv ?_ ?_); omega)
    | (with_reducible refine Arith.bv8 ?_)
    | (with_reducible refine Arith.bv16 ?_)
    | (with_reducible refine Arith.bv32 ?_)
    | (with_reducible refine Arith.bv64 ?_)
    | ((with_reducible refine Arith.i64 ?_ ?_); omega)
    | ((with_reducible refine Arith.u64 ?_ ?_); omega)
    | ((with_reducible refine Arith.u32 ?_ ?_); omega)
    | ((with_reducible refine Arith.u16 ?_ ?_); omega)
    | ((with_reducible refine Arith.u8 ?_ ?_); omega)
    | ((with_reducible refine Arith.i32 ?_ ?_); omega)
    | ((with_reducible refine Arith.i64 ?_ ?_); simp (discharger := omega) only [Int.tdiv_eq_ediv_of_nonneg, shr_u8_4, shl_u8_4, shr_u16_4, shl_u16_4, shr_u16_8, shl_u16_8, shr_u32_4, shl_u32_4, shr_u32_8, shl_u32_8, shr_u32_16, shl_u32_16, shr_u32_24, shl_u32_24, shr_u64_4, shl_u64_4, shr_u64_8, shl_u64_8, shr_u64_16, shl_u64_16, shr_u64_24, shl_u64_24, shr_u64_40, shl_u64_40, shr_i64_4, shl_i64_4, shr_i64_8, shl_i64_8, shr_i64_16, shl_i64_16, shr_i64_24, shl_i64_24, shr_i64_40, shl_i64_40]; omega)
    | ((with_reducible refine Arith.u64 ?_ ?_); simp (discharger := omega) only [Int.tdiv_eq_ediv_of_nonneg, shr_u8_4, shl_u8_4, shr_u16_4, shl_u16_4, shr_u16_8, shl_u16_8, shr_u32_4, shl_u32_4, shr_u32_8, shl_u32_8, shr_u32_16, shl_u32_16, shr_u32_24, shl_u32_24, shr_u64_4, shl_u64_4, shr_u64_8, shl_u64_8, shr_u64_16, shl_u64_16, shr_u64_24, shl_u64_24, shr_u64_40, shl_u64_40, shr_i64_4, shl_i64_4, shr_i64_8, shl_i64_8, shr_i64_16, shl_i64_16, shr_i64_24, shl_i64_24, shr_i64_40, shl_i64_40]; omega)
    | ((with_reducible refine Arith.u32 ?_ ?_); simp (discharger := omega) only [Int.tdiv_eq_ediv_of_nonneg, shr_u8_4, shl_u8_4, shr_u16_4, shl_u16_4, shr_u16_8, shl_u16_8, shr_u32_4, shl_u32_4, shr_u32_8, shl_u32_8, shr_u32_16, shl_u32_16, shr_u32_24, shl_u32_24, shr_u64_4, shl_u64_4, shr_u64_8, shl_u64_8, shr_u64_16, shl_u64_16, shr_u64_24, shl_u64_24, shr_u64_40, shl_u64_40, shr_i64_4, shl_i64_4, shr_i64_8, shl_i64_8, shr_i64_16, shl_i64_16, shr_i64_24, shl_i64_24, shr_i64_40, shl_i64_40]; omega)
    | ((with_reducible refine Arith.u16 ?_ ?_); simp (discharger := omega) only [Int.tdiv_eq_ediv_of_nonneg, shr_u8_4, shl_u8_4, shr_u16_4, shl_u16_4, shr_u16_8, shl_u16_8, shr_u32_4, shl_u32_4, shr_u32_8, shl_u32_8, shr_u32_16, shl_u32_16, shr_u32_24, shl_u32_24, shr_u64_4, shl_u64_4, shr_u64_8, shl_u64_8, shr_u64_16, shl_u64_16, shr_u64_24, shl_u64_24, shr_u64_40, shl_u64_40, shr_i64_4, shl_i64_4, shr_i64_8, shl_i64_8, shr_i64_16, shl_i64_16, shr_i64_24, shl_i64_24, shr_i64_40, shl_i64_40]; omega)
    | ((with_reducible refine Arith.u8 ?_ ?_); simp (discharger := omega) only [Int.tdiv_eq_ediv_of_nonneg, shr_u8_4, shl_u8_4, shr_u16_4, shl_u16_4, shr_u16_8, shl_u16_8, shr_u32_4, shl_u32_4, shr_u32_8, shl_u32_8, shr_u32_16, shl_u32_16, shr_u32_24, shl_u32_24, shr_u64_4, shl_u64_4, shr_u64_8, shl_u64_8, shr_u64_16, shl_u64_16, shr_u64_24, shl_u64_24, shr_u64_40, shl_u64_40, shr_i64_4, shl_i64_4, shr_i64_8, shl_i64_8, shr_i64_16, shl_i64_16, shr_i64_24, shl_i64_24, shr_i64_40, shl_i64_40]; omega)
    | (with_reducible refine Arith.mk ?_)
    | (with_reducible refine Ends.mk ?_))
  all_goals exact ⟨rfl, rfl⟩
theorem renc_det (tos id : Int) (hold more : Bool) (at_ ttl proto fr to : Int) (o : ByteArray) (d : ByteArray) (htos : 0 ≤ tos ∧ tos ≤ 255) (hid : 0 ≤ id ∧ id ≤ 65535) (hat : -9223372036854775808 ≤ at_ ∧ at_ ≤ 9223372036854775807) (httl : 0 ≤ ttl ∧ ttl ≤ 255) (hproto : 0 ≤ proto ∧ proto ≤ 255) (hfr : 0 ≤ fr ∧ fr ≤ 4294967295) (hto : 0 ≤ to ∧ to ≤ 4294967295) (hd : d.size ≤ 1000000) (ho : o.size ≤ 1000000) : Det Try.prog 28 [.a (hdr tos id hold more at_ ttl proto fr to o), .o (.str d)] [] (.t [.o (.str (enc10 tos id hold more at_ ttl proto fr to o d)), .o (.int .i64 (enc10e more at_ o d))]) [] := by
  cases hm : may10 at_ o with
  | false => exact renc_a _ _ _ _ _ _ _ _ _ _ _ htos hid hat httl hproto hfr hto hd ho hm
  | true => cases hw : whole10 more d.size with
    | false => exact renc_b _ _ _ _ _ _ _ _ _ _ _ htos hid hat httl hproto hfr hto hd ho hm hw
    | true => cases hf : fits10 at_ d.size o with
      | false => exact renc_c _ _ _ _ _ _ _ _ _ _ _ htos hid hat httl hproto hfr hto hd ho hm hw hf
      | true => exact renc_d _ _ _ _ _ _ _ _ _ _ _ htos hid hat httl hproto hfr hto hd ho hm hw hf
end G2
end Go.Proofs.Ytnmeeafnobfobaa.VM
