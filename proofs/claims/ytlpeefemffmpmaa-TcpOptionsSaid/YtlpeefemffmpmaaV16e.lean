/- law 16 by the evaluator: the laws TcpTells, TcpAnswers, TcpEnds. -/
import Derived.Test.YtlpeefemffmpmaaV16d
import Derived.Test.YtlpeefemffmpmaaP16
namespace Go.Proofs.Ytlpeefemffmpmaa.VM
namespace L16
open Go.RowKit
set_option linter.unusedVariables false
set_option linter.unusedSimpArgs false
set_option maxRecDepth 100000
def vf_law16_TcpTells : VFn := ⟨(.seq (.reg [
    ⟨(some 4), .box (.t 0), none, 0⟩,
    ⟨(some 8), .mv (.c (.p (.o (.bool false)))), none, 1⟩] 1 none) (.seq (.seq (.reg [
    ⟨(some 21), .fad 11 (.t 4), none, 0⟩,
    ⟨(some 22), .ld none (.t 21), none, 0⟩,
    ⟨(some 23), .len false (.t 22), none, 0⟩,
    ⟨(some 24), .bin .gtr (.t 23) (.c (.p (.o (.int .i64 131072)))), none, 0⟩,
    ⟨(some 25), .mv (.t 24), none, 0⟩,
    ⟨(some 26), .mv (.t 3), (some (25, false)), 0⟩,
    ⟨(some 27), .len false (.t 26), (some (25, false)), 0⟩,
    ⟨(some 28), .bin .gtr (.t 27) (.c (.p (.o (.int .i64 131072)))), (some (25, false)), 0⟩,
    ⟨(some 29), .pick (.t 25) (.c (.p (.o (.bool true)))) (.t 28), none, 0⟩] 0 none) (.cond (.t 29) (.seq (.reg [
    ⟨(some 30), .call 35 [] 0, none, 0⟩,
    ⟨(some 8), .mv (.t 30), none, 0⟩] 0 none) .ret) .skip)) (.seq (.reg [
    ⟨(some 32), .ld (some 12) (.t 4), none, 0⟩,
    ⟨(some 33), .call 36 [(.t 32)] 0, none, 0⟩,
    ⟨(some 31), .mv (.t 33), none, 0⟩,
    ⟨(some 34), .ext 0 (.t 31), none, 0⟩,
    ⟨(some 35), .ext 1 (.t 31), none, 0⟩,
    ⟨(some 9), .mv (.t 34), none, 0⟩,
    ⟨(some 10), .mv (.t 35), none, 0⟩] 0 none) (.seq (.reg [
    ⟨(some 37), .ld (some 12) (.t 4), none, 0⟩,
    ⟨(some 38), .call 37 [(.t 37)] 0, none, 0⟩,
    ⟨(some 36), .mv (.t 38), none, 0⟩,
    ⟨(some 39), .ext 0 (.t 36), none, 0⟩,
    ⟨(some 40), .ext 1 (.t 36), none, 0⟩,
    ⟨(some 11), .mv (.t 39), none, 0⟩,
    ⟨(some 12), .mv (.t 40), none, 0⟩] 0 none) (.seq (.reg [
    ⟨(some 42), .mv (.t 1), none, 0⟩,
    ⟨(some 43), .mv (.t 2), none, 0⟩,
    ⟨(some 44), .mv (.t 3), none, 0⟩,
    ⟨(some 45), .call 38 [(.t 42), (.t 43), (.t 44)] 0, none, 0⟩,
    ⟨(some 41), .mv (.t 45), none, 0⟩,
    ⟨(some 46), .ext 0 (.t 41), none, 0⟩,
    ⟨(some 47), .ext 1 (.t 41), none, 0⟩,
    ⟨(some 13), .new [.int .u32 0, .int .u16 0, .int .u32 0, .int .u16 0, .int .u32 0, .int .u32 0, .int .u8 0, .int .u16 0, .int .u16 0, .int .u16 0, .int .i64 0, .str ⟨#[]⟩], none, 0⟩,
    ⟨none, .st 12 (.t 13) (.t 46), none, 1⟩,
    ⟨(some 14), .mv (.t 47), none, 1⟩] 1 none) (.seq (.reg [
    ⟨(some 49), .mv (.t 1), none, 0⟩,
    ⟨(some 50), .mv (.t 2), none, 0⟩,
    ⟨(some 51), .mv (.t 3), none, 0⟩,
    ⟨(some 52), .call 39 [(.t 49), (.t 50), (.t 51)] 0, none, 0⟩,
    ⟨(some 48), .mv (.t 52), none, 0⟩,
    ⟨(some 53), .ext 0 (.t 48), none, 0⟩,
    ⟨(some 54), .ext 1 (.t 48), none, 0⟩,
    ⟨(some 15), .new [.int .u32 0, .int .u16 0, .int .u32 0, .int .u16 0, .int .u32 0, .int .u32 0, .int .u8 0, .int .u16 0, .int .u16 0, .int .u16 0, .int .i64 0, .str ⟨#[]⟩], none, 0⟩,
    ⟨none, .st 12 (.t 15) (.t 53), none, 1⟩,
    ⟨(some 16), .mv (.t 54), none, 1⟩] 1 none) (.seq (.reg [
    ⟨(some 56), .ld (some 12) (.t 4), none, 0⟩,
    ⟨(some 57), .call 40 [(.t 56)] 0, none, 0⟩,
    ⟨(some 55), .mv (.t 57), none, 0⟩,
    ⟨(some 58), .ext 0 (.t 55), none, 0⟩,
    ⟨(some 59), .ext 1 (.t 55), none, 0⟩,
    ⟨(some 17), .new [.int .u32 0, .int .u16 0, .int .u32 0, .int .u16 0, .int .u32 0, .int .u32 0, .int .u8 0, .int .u16 0, .int .u16 0, .int .u16 0, .int .i64 0, .str ⟨#[]⟩], none, 0⟩,
    ⟨none, .st 12 (.t 17) (.t 58), none, 1⟩,
    ⟨(some 18), .mv (.t 59), none, 1⟩] 1 none) (.seq (.reg [
    ⟨(some 61), .ld (some 12) (.t 4), none, 0⟩,
    ⟨(some 62), .call 41 [(.t 61)] 0, none, 0⟩,
    ⟨(some 60), .mv (.t 62), none, 0⟩,
    ⟨(some 63), .ext 0 (.t 60), none, 0⟩,
    ⟨(some 64), .ext 1 (.t 60), none, 0⟩,
    ⟨(some 19), .new [.int .u32 0, .int .u16 0, .int .u32 0, .int .u16 0, .int .u32 0, .int .u32 0, .int .u8 0, .int .u16 0, .int .u16 0, .int .u16 0, .int .i64 0, .str ⟨#[]⟩], none, 0⟩,
    ⟨none, .st 12 (.t 19) (.t 63), none, 1⟩,
    ⟨(some 20), .mv (.t 64), none, 1⟩] 1 none) (.seq (.reg [
    ⟨(some 65), .ld (some 12) (.t 4), none, 0⟩,
    ⟨(some 66), .call 42 [(.t 65)] 0, none, 0⟩,
    ⟨(some 67), .ld (some 12) (.t 4), none, 0⟩,
    ⟨(some 68), .call 43 [(.t 67)] 0, none, 0⟩,
    ⟨(some 69), .eq .bool false (.t 66) (.t 68), none, 0⟩,
    ⟨(some 70), .mv (.t 69), none, 0⟩,
    ⟨(some 71), .mv (.t 9), (some (70, true)), 0⟩,
    ⟨(some 72), .mv (.t 11), (some (70, true)), 0⟩,
    ⟨(some 73), .bin .eql (.t 71) (.t 72), (some (70, true)), 0⟩,
    ⟨(some 74), .pick (.t 70) (.t 73) (.c (.p (.o (.bool false)))), none, 0⟩,
    ⟨(some 75), .mv (.t 74), none, 0⟩,
    ⟨(some 76), .mv (.t 10), (some (75, true)), 0⟩,
    ⟨(some 77), .mv (.t 12), (some (75, true)), 0⟩,
    ⟨(some 78), .bin .eql (.t 76) (.t 77), (some (75, true)), 0⟩,
    ⟨(some 79), .pick (.t 75) (.t 78) (.c (.p (.o (.bool false)))), none, 0⟩,
    ⟨(some 80), .mv (.t 79), none, 0⟩,
    ⟨(some 81), .ld (some 12) (.t 13), (some (80, true)), 0⟩,
    ⟨(some 82), .ld (some 12) (.t 15), (some (80, true)), 0⟩,
    ⟨(some 83), .eq (.flat [.int .u32, .int .u16, .int .u32, .int .u16, .int .u32, .int .u32, .int .u8, .int .u16, .int .u16, .int .u16, .int .i64, .str]) false (.t 81) (.t 82), (some (80, true)), 0⟩,
    ⟨(some 84), .pick (.t 80) (.t 83) (.c (.p (.o (.bool false)))), none, 0⟩,
    ⟨(some 85), .mv (.t 84), none, 0⟩,
    ⟨(some 86), .mv (.t 14), (some (85, true)), 0⟩,
    ⟨(some 87), .mv (.t 16), (some (85, true)), 0⟩,
    ⟨(some 88), .bin .eql (.t 86) (.t 87), (some (85, true)), 0⟩,
    ⟨(some 89), .pick (.t 85) (.t 88) (.c (.p (.o (.bool false)))), none, 0⟩,
    ⟨(some 90), .mv (.t 89), none, 0⟩,
    ⟨(some 91), .ld (some 12) (.t 4), (some (90, true)), 0⟩,
    ⟨(some 92), .call 44 [(.t 91)] 0, (some (90, true)), 0⟩,
    ⟨(some 93), .ld (some 12) (.t 4), (some (90, true)), 0⟩,
    ⟨(some 94), .call 45 [(.t 93)] 0, (some (90, true)), 0⟩,
    ⟨(some 95), .bin .eql (.t 92) (.t 94), (some (90, true)), 0⟩,
    ⟨(some 96), .pick (.t 90) (.t 95) (.c (.p (.o (.bool false)))), none, 0⟩,
    ⟨(some 97), .mv (.t 96), none, 0⟩,
    ⟨(some 98), .ld (some 12) (.t 17), (some (97, true)), 0⟩,
    ⟨(some 99), .ld (some 12) (.t 19), (some (97, true)), 0⟩,
    ⟨(some 100), .eq (.flat [.int .u32, .int .u16, .int .u32, .int .u16, .int .u32, .int .u32, .int .u8, .int .u16, .int .u16, .int .u16, .int .i64, .str]) false (.t 98) (.t 99), (some (97, true)), 0⟩,
    ⟨(some 101), .pick (.t 97) (.t 100) (.c (.p (.o (.bool false)))), none, 0⟩,
    ⟨(some 102), .mv (.t 101), none, 0⟩,
    ⟨(some 103), .mv (.t 18), (some (102, true)), 0⟩,
    ⟨(some 104), .mv (.t 20), (some (102, true)), 0⟩,
    ⟨(some 105), .eq .bool false (.t 103) (.t 104), (some (102, true)), 0⟩,
    ⟨(some 106), .pick (.t 102) (.t 105) (.c (.p (.o (.bool false)))), none, 0⟩,
    ⟨(some 107), .mv (.t 106), none, 0⟩,
    ⟨(some 108), .call 35 [] 0, (some (107, true)), 0⟩,
    ⟨(some 109), .pick (.t 107) (.t 108) (.c (.p (.o (.bool false)))), none, 0⟩,
    ⟨(some 8), .mv (.t 109), none, 0⟩] 0 (some [(0, 2), (1, 2), (6, 7), (11, 12), (16, 17), (21, 22), (26, 28), (27, 28), (33, 34), (38, 39)])) .ret))))))))),
  [.tmp 8], 110, [0, 1, 2, 3, 4, 8, 9, 10, 11, 12, 13, 14, 15, 16, 17, 18, 19, 20]⟩
theorem ok_law16_TcpTells : cFn Try.prog eqsT newsT vf_law16_TcpTells.keep Try.f10 = some vf_law16_TcpTells := by kernel_rfl
def vf_law16_TcpAnswers : VFn := ⟨(.seq (.reg [
    ⟨(some 1), .box (.t 0), none, 0⟩,
    ⟨(some 2), .mv (.c (.p (.o (.bool false)))), none, 1⟩] 1 none) (.seq (.seq (.reg [
    ⟨(some 10), .fad 11 (.t 1), none, 0⟩,
    ⟨(some 11), .ld none (.t 10), none, 0⟩,
    ⟨(some 12), .len false (.t 11), none, 0⟩,
    ⟨(some 13), .bin .gtr (.t 12) (.c (.p (.o (.int .i64 4096)))), none, 0⟩] 0 none) (.cond (.t 13) (.seq (.reg [
    ⟨(some 14), .call 35 [] 0, none, 0⟩,
    ⟨(some 2), .mv (.t 14), none, 0⟩] 0 none) .ret) .skip)) (.seq (.reg [
    ⟨(some 16), .ld (some 12) (.t 1), none, 0⟩,
    ⟨(some 17), .call 40 [(.t 16)] 0, none, 0⟩,
    ⟨(some 15), .mv (.t 17), none, 0⟩,
    ⟨(some 18), .ext 0 (.t 15), none, 0⟩,
    ⟨(some 19), .ext 1 (.t 15), none, 0⟩,
    ⟨(some 3), .new [.int .u32 0, .int .u16 0, .int .u32 0, .int .u16 0, .int .u32 0, .int .u32 0, .int .u8 0, .int .u16 0, .int .u16 0, .int .u16 0, .int .i64 0, .str ⟨#[]⟩], none, 0⟩,
    ⟨none, .st 12 (.t 3) (.t 18), none, 1⟩,
    ⟨(some 4), .mv (.t 19), none, 1⟩] 1 none) (.seq (.reg [
    ⟨(some 20), .fad 11 (.t 1), none, 0⟩,
    ⟨(some 21), .ld none (.t 20), none, 0⟩,
    ⟨(some 22), .len false (.t 21), none, 0⟩,
    ⟨(some 5), .mv (.t 22), none, 0⟩] 0 none) (.seq (.seq (.reg [
    ⟨(some 23), .fad 6 (.t 1), none, 0⟩,
    ⟨(some 24), .ld none (.t 23), none, 0⟩,
    ⟨(some 25), .bin .and (.t 24) (.c (.p (.o (.int .u8 2)))), none, 0⟩,
    ⟨(some 26), .bin .neq (.t 25) (.c (.p (.o (.int .u8 0)))), none, 0⟩] 0 none) (.cond (.t 26) (.reg [
    ⟨(some 27), .mv (.t 5), none, 0⟩,
    ⟨(some 28), .bin .add (.t 27) (.c (.p (.o (.int .i64 1)))), none, 0⟩,
    ⟨(some 5), .mv (.t 28), none, 0⟩] 0 none) .skip)) (.seq (.seq (.reg [
    ⟨(some 29), .fad 6 (.t 1), none, 0⟩,
    ⟨(some 30), .ld none (.t 29), none, 0⟩,
    ⟨(some 31), .bin .and (.t 30) (.c (.p (.o (.int .u8 1)))), none, 0⟩,
    ⟨(some 32), .bin .neq (.t 31) (.c (.p (.o (.int .u8 0)))), none, 0⟩] 0 none) (.cond (.t 32) (.reg [
    ⟨(some 33), .mv (.t 5), none, 0⟩,
    ⟨(some 34), .bin .add (.t 33) (.c (.p (.o (.int .i64 1)))), none, 0⟩,
    ⟨(some 5), .mv (.t 34), none, 0⟩] 0 none) .skip)) (.seq (.seq (.reg [
    ⟨(some 35), .ld (some 12) (.t 1), none, 0⟩,
    ⟨(some 36), .call 44 [(.t 35)] 0, none, 0⟩,
    ⟨(some 37), .cvi .i64 (.t 36), none, 0⟩,
    ⟨(some 38), .mv (.t 5), none, 0⟩,
    ⟨(some 39), .bin .neq (.t 37) (.t 38), none, 0⟩] 0 none) (.cond (.t 39) (.seq (.reg [
    ⟨(some 2), .mv (.c (.p (.o (.bool false)))), none, 0⟩] 0 none) .ret) .skip)) (.seq (.seq (.reg [
    ⟨(some 40), .mv (.t 4), none, 0⟩,
    ⟨(some 41), .un .not (.t 40), none, 0⟩] 0 none) (.cond (.t 41) (.seq (.reg [
    ⟨(some 42), .fad 6 (.t 1), none, 0⟩,
    ⟨(some 43), .ld none (.t 42), none, 0⟩,
    ⟨(some 44), .bin .and (.t 43) (.c (.p (.o (.int .u8 4)))), none, 0⟩,
    ⟨(some 45), .bin .neq (.t 44) (.c (.p (.o (.int .u8 0)))), none, 0⟩,
    ⟨(some 46), .mv (.t 45), none, 0⟩,
    ⟨(some 47), .ld (some 12) (.t 3), (some (46, true)), 0⟩,
    ⟨(some 48), .bld [.int .u32 0, .int .u16 0, .int .u32 0, .int .u16 0, .int .u32 0, .int .u32 0, .int .u8 0, .int .u16 0, .int .u16 0, .int .u16 0, .int .i64 0, .str ⟨#[]⟩] [], (some (46, true)), 0⟩,
    ⟨(some 49), .eq (.flat [.int .u32, .int .u16, .int .u32, .int .u16, .int .u32, .int .u32, .int .u8, .int .u16, .int .u16, .int .u16, .int .i64, .str]) false (.t 47) (.t 48), (some (46, true)), 0⟩,
    ⟨(some 50), .pick (.t 46) (.t 49) (.c (.p (.o (.bool false)))), none, 0⟩,
    ⟨(some 51), .mv (.t 50), none, 0⟩,
    ⟨(some 52), .call 35 [] 0, (some (51, true)), 0⟩,
    ⟨(some 53), .pick (.t 51) (.t 52) (.c (.p (.o (.bool false)))), none, 0⟩,
    ⟨(some 2), .mv (.t 53), none, 0⟩] 0 none) .ret) .skip)) (.seq (.reg [
    ⟨(some 55), .ld (some 12) (.t 3), none, 0⟩,
    ⟨(some 56), .call 40 [(.t 55)] 0, none, 0⟩,
    ⟨(some 54), .mv (.t 56), none, 0⟩,
    ⟨(some 57), .ext 0 (.t 54), none, 0⟩,
    ⟨(some 58), .ext 1 (.t 54), none, 0⟩,
    ⟨(some 6), .new [.int .u32 0, .int .u16 0, .int .u32 0, .int .u16 0, .int .u32 0, .int .u32 0, .int .u8 0, .int .u16 0, .int .u16 0, .int .u16 0, .int .i64 0, .str ⟨#[]⟩], none, 0⟩,
    ⟨none, .st 12 (.t 6) (.t 57), none, 1⟩,
    ⟨(some 7), .mv (.t 58), none, 1⟩] 1 none) (.seq (.reg [
    ⟨(some 59), .fad 0 (.t 3), none, 0⟩,
    ⟨(some 60), .fad 0 (.t 59), none, 0⟩,
    ⟨(some 61), .ld (some 2) (.t 60), none, 0⟩,
    ⟨(some 62), .fad 0 (.t 1), none, 0⟩,
    ⟨(some 63), .fad 2 (.t 62), none, 0⟩,
    ⟨(some 64), .ld (some 2) (.t 63), none, 0⟩,
    ⟨(some 65), .eq (.flat [.int .u32, .int .u16]) false (.t 61) (.t 64), none, 0⟩,
    ⟨(some 66), .mv (.t 65), none, 0⟩,
    ⟨(some 67), .fad 0 (.t 3), (some (66, true)), 0⟩,
    ⟨(some 68), .fad 2 (.t 67), (some (66, true)), 0⟩,
    ⟨(some 69), .ld (some 2) (.t 68), (some (66, true)), 0⟩,
    ⟨(some 70), .fad 0 (.t 1), (some (66, true)), 0⟩,
    ⟨(some 71), .fad 0 (.t 70), (some (66, true)), 0⟩,
    ⟨(some 72), .ld (some 2) (.t 71), (some (66, true)), 0⟩,
    ⟨(some 73), .eq (.flat [.int .u32, .int .u16]) false (.t 69) (.t 72), (some (66, true)), 0⟩,
    ⟨(some 74), .pick (.t 66) (.t 73) (.c (.p (.o (.bool false)))), none, 0⟩,
    ⟨(some 8), .mv (.t 74), none, 0⟩] 0 none) (.seq (.reg [
    ⟨(some 75), .fad 6 (.t 3), none, 0⟩,
    ⟨(some 76), .ld none (.t 75), none, 0⟩,
    ⟨(some 77), .bin .eql (.t 76) (.c (.p (.o (.int .u8 4)))), none, 0⟩,
    ⟨(some 78), .mv (.t 77), none, 0⟩,
    ⟨(some 79), .fad 4 (.t 3), (some (78, true)), 0⟩,
    ⟨(some 80), .ld none (.t 79), (some (78, true)), 0⟩,
    ⟨(some 81), .fad 5 (.t 1), (some (78, true)), 0⟩,
    ⟨(some 82), .ld none (.t 81), (some (78, true)), 0⟩,
    ⟨(some 83), .bin .eql (.t 80) (.t 82), (some (78, true)), 0⟩,
    ⟨(some 84), .pick (.t 78) (.t 83) (.c (.p (.o (.bool false)))), none, 0⟩,
    ⟨(some 9), .mv (.t 84), none, 0⟩] 0 none) (.seq (.seq (.reg [
    ⟨(some 85), .fad 6 (.t 1), none, 0⟩,
    ⟨(some 86), .ld none (.t 85), none, 0⟩,
    ⟨(some 87), .bin .and (.t 86) (.c (.p (.o (.int .u8 16)))), none, 0⟩,
    ⟨(some 88), .bin .eql (.t 87) (.c (.p (.o (.int .u8 0)))), none, 0⟩] 0 none) (.cond (.t 88) (.reg [
    ⟨(some 89), .fad 6 (.t 3), none, 0⟩,
    ⟨(some 90), .ld none (.t 89), none, 0⟩,
    ⟨(some 91), .bin .eql (.t 90) (.c (.p (.o (.int .u8 20)))), none, 0⟩,
    ⟨(some 92), .mv (.t 91), none, 0⟩,
    ⟨(some 93), .fad 4 (.t 3), (some (92, true)), 0⟩,
    ⟨(some 94), .ld none (.t 93), (some (92, true)), 0⟩,
    ⟨(some 95), .bin .eql (.t 94) (.c (.p (.o (.int .u32 0)))), (some (92, true)), 0⟩,
    ⟨(some 96), .pick (.t 92) (.t 95) (.c (.p (.o (.bool false)))), none, 0⟩,
    ⟨(some 97), .mv (.t 96), none, 0⟩,
    ⟨(some 98), .fad 4 (.t 1), (some (97, true)), 0⟩,
    ⟨(some 99), .ld none (.t 98), (some (97, true)), 0⟩,
    ⟨(some 100), .fad 5 (.t 3), (some (97, true)), 0⟩,
    ⟨(some 101), .ld none (.t 100), (some (97, true)), 0⟩,
    ⟨(some 102), .call 47 [(.t 99), (.t 101)] 0, (some (97, true)), 0⟩,
    ⟨(some 103), .mv (.t 5), (some (97, true)), 0⟩,
    ⟨(some 104), .bin .eql (.t 102) (.t 103), (some (97, true)), 0⟩,
    ⟨(some 105), .pick (.t 97) (.t 104) (.c (.p (.o (.bool false)))), none, 0⟩,
    ⟨(some 9), .mv (.t 105), none, 0⟩] 0 none) .skip)) (.seq (.reg [
    ⟨(some 106), .mv (.t 7), none, 0⟩,
    ⟨(some 107), .un .not (.t 106), none, 0⟩,
    ⟨(some 108), .mv (.t 107), none, 0⟩,
    ⟨(some 109), .mv (.t 8), (some (108, true)), 0⟩,
    ⟨(some 110), .pick (.t 108) (.t 109) (.c (.p (.o (.bool false)))), none, 0⟩,
    ⟨(some 111), .mv (.t 110), none, 0⟩,
    ⟨(some 112), .mv (.t 9), (some (111, true)), 0⟩,
    ⟨(some 113), .pick (.t 111) (.t 112) (.c (.p (.o (.bool false)))), none, 0⟩,
    ⟨(some 114), .mv (.t 113), none, 0⟩,
    ⟨(some 115), .ld (some 12) (.t 3), (some (114, true)), 0⟩,
    ⟨(some 116), .call 42 [(.t 115)] 0, (some (114, true)), 0⟩,
    ⟨(some 117), .pick (.t 114) (.t 116) (.c (.p (.o (.bool false)))), none, 0⟩,
    ⟨(some 118), .mv (.t 117), none, 0⟩,
    ⟨(some 119), .ld (some 12) (.t 3), (some (118, true)), 0⟩,
    ⟨(some 120), .call 44 [(.t 119)] 0, (some (118, true)), 0⟩,
    ⟨(some 121), .bin .eql (.t 120) (.c (.p (.o (.int .u32 0)))), (some (118, true)), 0⟩,
    ⟨(some 122), .pick (.t 118) (.t 121) (.c (.p (.o (.bool false)))), none, 0⟩,
    ⟨(some 123), .mv (.t 122), none, 0⟩,
    ⟨(some 124), .call 35 [] 0, (some (123, true)), 0⟩,
    ⟨(some 125), .pick (.t 123) (.t 124) (.c (.p (.o (.bool false)))), none, 0⟩,
    ⟨(some 2), .mv (.t 125), none, 0⟩] 0 none) .ret))))))))))))),
  [.tmp 2], 126, [0, 1, 2, 3, 4, 5, 7, 8, 9]⟩
theorem ok_law16_TcpAnswers : cFn Try.prog eqsT newsT vf_law16_TcpAnswers.keep Try.f14 = some vf_law16_TcpAnswers := by kernel_rfl
def vf_law16_TcpEnds : VFn := ⟨(.seq (.reg [
    ⟨(some 8), .mv (.c (.p (.o (.bool false)))), none, 0⟩] 0 none) (.seq (.reg [
    ⟨(some 17), .mv (.t 1), none, 0⟩,
    ⟨(some 18), .mv (.t 2), none, 0⟩,
    ⟨(some 19), .cvi .i64 (.t 18), none, 0⟩,
    ⟨(some 20), .mnx true (.t 19) (.c (.p (.o (.int .i64 (-1))))), none, 0⟩,
    ⟨(some 21), .mnx false (.t 20) (.c (.p (.o (.int .i64 14)))), none, 0⟩,
    ⟨(some 22), .bld [.int .u32 0, .int .u16 0, .int .u32 0, .int .u16 0, .int .u32 0, .int .u32 0, .int .u8 0, .int .u16 0, .int .u16 0, .int .u16 0, .int .i64 0, .str ⟨#[]⟩] [(6, 1, (.c (.p (.o (.int .u8 2))))), (9, 1, (.t 17)), (10, 1, (.t 21))], none, 0⟩,
    ⟨(some 9), .new [.int .u32 0, .int .u16 0, .int .u32 0, .int .u16 0, .int .u32 0, .int .u32 0, .int .u8 0, .int .u16 0, .int .u16 0, .int .u16 0, .int .i64 0, .str ⟨#[]⟩], none, 0⟩,
    ⟨none, .st 12 (.t 9) (.t 22), none, 1⟩] 1 none) (.seq (.reg [
    ⟨(some 10), .mv (.c (.p (.o (.int .i64 20)))), none, 0⟩] 0 none) (.seq (.seq (.reg [
    ⟨(some 23), .mv (.t 1), none, 0⟩,
    ⟨(some 24), .bin .gtr (.t 23) (.c (.p (.o (.int .u16 0)))), none, 0⟩] 0 none) (.cond (.t 24) (.reg [
    ⟨(some 25), .mv (.t 10), none, 0⟩,
    ⟨(some 26), .bin .add (.t 25) (.c (.p (.o (.int .i64 4)))), none, 0⟩,
    ⟨(some 10), .mv (.t 26), none, 0⟩] 0 none) .skip)) (.seq (.seq (.reg [
    ⟨(some 27), .fad 10 (.t 9), none, 0⟩,
    ⟨(some 28), .ld none (.t 27), none, 0⟩,
    ⟨(some 29), .bin .geq (.t 28) (.c (.p (.o (.int .i64 0)))), none, 0⟩] 0 none) (.cond (.t 29) (.reg [
    ⟨(some 30), .mv (.t 10), none, 0⟩,
    ⟨(some 31), .bin .add (.t 30) (.c (.p (.o (.int .i64 4)))), none, 0⟩,
    ⟨(some 10), .mv (.t 31), none, 0⟩] 0 none) .skip)) (.seq (.reg [
    ⟨(some 33), .ld (some 12) (.t 9), none, 0⟩,
    ⟨(some 34), .call 36 [(.t 33)] 0, none, 0⟩,
    ⟨(some 32), .mv (.t 34), none, 0⟩,
    ⟨(some 35), .ext 0 (.t 32), none, 0⟩,
    ⟨(some 36), .ext 1 (.t 32), none, 0⟩,
    ⟨(some 11), .mv (.t 35), none, 0⟩,
    ⟨(some 12), .mv (.t 36), none, 0⟩] 0 none) (.seq (.reg [
    ⟨(some 38), .mv (.t 11), none, 0⟩,
    ⟨(some 39), .mv (.t 3), none, 0⟩,
    ⟨(some 40), .cvi .i64 (.t 39), none, 0⟩,
    ⟨(some 41), .mv (.t 11), none, 0⟩,
    ⟨(some 42), .len false (.t 41), none, 0⟩,
    ⟨(some 43), .mnx true (.t 42) (.c (.p (.o (.int .i64 1)))), none, 0⟩,
    ⟨(some 44), .bin .rem (.t 40) (.t 43), none, 0⟩,
    ⟨(some 45), .mv (.t 11), none, 0⟩,
    ⟨(some 46), .len false (.t 45), none, 0⟩,
    ⟨(some 47), .mnx false (.t 44) (.t 46), none, 0⟩,
    ⟨(some 48), .sls (.t 38) none (some (.t 47)), none, 0⟩,
    ⟨(some 49), .call 38 [(.c (.p (.o (.int .u32 0)))), (.c (.p (.o (.int .u32 0)))), (.t 48)] 0, none, 0⟩,
    ⟨(some 37), .mv (.t 49), none, 0⟩,
    ⟨(some 50), .ext 0 (.t 37), none, 0⟩,
    ⟨(some 51), .ext 1 (.t 37), none, 0⟩,
    ⟨(some 13), .new [.int .u32 0, .int .u16 0, .int .u32 0, .int .u16 0, .int .u32 0, .int .u32 0, .int .u8 0, .int .u16 0, .int .u16 0, .int .u16 0, .int .i64 0, .str ⟨#[]⟩], none, 0⟩,
    ⟨none, .st 12 (.t 13) (.t 50), none, 1⟩,
    ⟨(some 14), .mv (.t 51), none, 1⟩] 1 none) (.seq (.reg [
    ⟨(some 52), .mv (.t 10), none, 0⟩,
    ⟨(some 53), .bin .sub (.c (.p (.o (.int .i64 65515)))) (.t 52), none, 0⟩,
    ⟨(some 54), .mv (.t 0), none, 0⟩,
    ⟨(some 55), .cvi .i64 (.t 54), none, 0⟩,
    ⟨(some 56), .bin .add (.t 53) (.t 55), none, 0⟩,
    ⟨(some 57), .mks 1 1 [.int .u8 0] (.t 56) (.t 56), none, 0⟩,
    ⟨(some 58), .b2s (.t 57), none, 1⟩,
    ⟨(some 59), .fad 11 (.t 9), none, 1⟩,
    ⟨none, .st 1 (.t 59) (.t 58), none, 1⟩] 1 none) (.seq (.reg [
    ⟨(some 61), .ld (some 12) (.t 9), none, 0⟩,
    ⟨(some 62), .call 36 [(.t 61)] 0, none, 0⟩,
    ⟨(some 60), .mv (.t 62), none, 0⟩,
    ⟨(some 63), .ext 0 (.t 60), none, 0⟩,
    ⟨(some 64), .ext 1 (.t 60), none, 0⟩,
    ⟨(some 15), .mv (.t 63), none, 0⟩,
    ⟨(some 16), .mv (.t 64), none, 0⟩] 0 none) (.seq (.reg [
    ⟨(some 65), .mv (.t 12), none, 0⟩,
    ⟨(some 66), .bin .eql (.t 65) (.c (.p (.o (.int .i64 0)))), none, 0⟩,
    ⟨(some 67), .mv (.t 66), none, 0⟩,
    ⟨(some 68), .mv (.t 11), (some (67, true)), 0⟩,
    ⟨(some 69), .len false (.t 68), (some (67, true)), 0⟩,
    ⟨(some 70), .mv (.t 10), (some (67, true)), 0⟩,
    ⟨(some 71), .bin .eql (.t 69) (.t 70), (some (67, true)), 0⟩,
    ⟨(some 72), .pick (.t 67) (.t 71) (.c (.p (.o (.bool false)))), none, 0⟩,
    ⟨(some 73), .mv (.t 72), none, 0⟩,
    ⟨(some 74), .mv (.t 14), (some (73, true)), 0⟩,
    ⟨(some 75), .bin .eql (.t 74) (.c (.p (.o (.int .i64 10)))), (some (73, true)), 0⟩,
    ⟨(some 76), .pick (.t 73) (.t 75) (.c (.p (.o (.bool false)))), none, 0⟩,
    ⟨(some 77), .mv (.t 76), none, 0⟩,
    ⟨(some 78), .mv (.t 16), (some (77, true)), 0⟩,
    ⟨(some 79), .bin .eql (.t 78) (.c (.p (.o (.int .i64 0)))), (some (77, true)), 0⟩,
    ⟨(some 80), .mv (.t 0), (some (77, true)), 0⟩,
    ⟨(some 81), .bin .leq (.t 80) (.c (.p (.o (.int .i8 0)))), (some (77, true)), 0⟩,
    ⟨(some 82), .eq .bool false (.t 79) (.t 81), (some (77, true)), 0⟩,
    ⟨(some 83), .pick (.t 77) (.t 82) (.c (.p (.o (.bool false)))), none, 0⟩,
    ⟨(some 84), .mv (.t 83), none, 0⟩,
    ⟨(some 85), .mv (.t 16), (some (84, true)), 0⟩,
    ⟨(some 86), .bin .eql (.t 85) (.c (.p (.o (.int .i64 0)))), (some (84, true)), 0⟩,
    ⟨(some 87), .mv (.t 86), (some (84, true)), 0⟩,
    ⟨(some 88), .mv (.t 16), (some (87, false)), 0⟩,
    ⟨(some 89), .bin .eql (.t 88) (.c (.p (.o (.int .i64 4)))), (some (87, false)), 0⟩,
    ⟨(some 90), .pick (.t 87) (.c (.p (.o (.bool true)))) (.t 89), (some (84, true)), 0⟩,
    ⟨(some 91), .pick (.t 84) (.t 90) (.c (.p (.o (.bool false)))), none, 0⟩,
    ⟨(some 92), .mv (.t 91), none, 0⟩,
    ⟨(some 93), .call 35 [] 0, (some (92, true)), 0⟩,
    ⟨(some 94), .pick (.t 92) (.t 93) (.c (.p (.o (.bool false)))), none, 0⟩,
    ⟨(some 8), .mv (.t 94), none, 0⟩] 0 none) .ret)))))))))),
  [.tmp 8], 95, [0, 1, 2, 3, 8, 9, 10, 11, 12, 14, 16]⟩
theorem ok_law16_TcpEnds : cFn Try.prog eqsT newsT vf_law16_TcpEnds.keep Try.f13 = some vf_law16_TcpEnds := by kernel_rfl
theorem dec16_form (x y : Int) (s : ByteArray) : ∃ x1 p1 y1 q1 sq1 ac1 fl1 wi1 ur1 ms1 sc1 d, dec16 x y s = seg x1 p1 y1 q1 sq1 ac1 fl1 wi1 ur1 ms1 sc1 d := by
  unfold dec16
  split <;> exact ⟨_, _, _, _, _, _, _, _, _, _, _, _, rfl⟩
theorem ans16_form (x p y q sq ac fl : Int) (d : ByteArray) : ∃ x1 p1 y1 q1 sq1 ac1 fl1 wi1 ur1 ms1 sc1 d1, ans16 x p y q sq ac fl d = seg x1 p1 y1 q1 sq1 ac1 fl1 wi1 ur1 ms1 sc1 d1 := by
  unfold ans16
  split
  · exact ⟨_, _, _, _, _, _, _, _, _, _, _, _, rfl⟩
  · split <;> exact ⟨_, _, _, _, _, _, _, _, _, _, _, _, rfl⟩
theorem tdec_det (x y : Int) (s : ByteArray) (hs : s.size ≤ 1000000) (hx : 0 ≤ x ∧ x ≤ 4294967295) (hy : 0 ≤ y ∧ y ≤ 4294967295) : Det Try.prog 38 [.o (.int .u32 x), .o (.int .u32 y), .o (.str s)] [] (.t [.a (dec16 x y s), .o (.int .i64 (dec16e x y s))]) [] := tdec_look x y s hs hx hy _ _ _ rfl
theorem rdec_det (x y : Int) (s : ByteArray) (hs : s.size ≤ 1000000) (hx : 0 ≤ x ∧ x ≤ 4294967295) (hy : 0 ≤ y ∧ y ≤ 4294967295) : Det Try.prog 39 [.o (.int .u32 x), .o (.int .u32 y), .o (.str s)] [] (.t [.a (dec16 x y s), .o (.int .i64 (dec16e x y s))]) [] := rdec_look x y s hs hx hy _ _ _ rfl
set_option maxHeartbeats 4000000 in
theorem tells_gen (x p y q sq ac fl wi ur ms sc : Int) (d : ByteArray) (f t : Int) (s A : ByteArray) (ea de : Int) (x1 p1 y1 q1 sq1 ac1 fl1 wi1 ur1 ms1 sc1 : Int) (d1 : ByteArray) (x2 p2 y2 q2 sq2 ac2 fl2 wi2 ur2 ms2 sc2 : Int) (d2 : ByteArray) (nb mb : Bool) (ln : Int) (hd : (d.size : Int) ≤ 131072) (hs : (s.size : Int) ≤ 131072)
    (E : Det Try.prog 36 [.a (seg x p y q sq ac fl wi ur ms sc d)] [] (.t [.o (.str A), .o (.int .i64 ea)]) []) (E' : Det Try.prog 37 [.a (seg x p y q sq ac fl wi ur ms sc d)] [] (.t [.o (.str A), .o (.int .i64 ea)]) []) (D : Det Try.prog 38 [.o (.int .u32 f), .o (.int .u32 t), .o (.str s)] [] (.t [.a (seg x1 p1 y1 q1 sq1 ac1 fl1 wi1 ur1 ms1 sc1 d1), .o (.int .i64 de)]) []) (D' : Det Try.prog 39 [.o (.int .u32 f), .o (.int .u32 t), .o (.str s)] [] (.t [.a (seg x1 p1 y1 q1 sq1 ac1 fl1 wi1 ur1 ms1 sc1 d1), .o (.int .i64 de)]) []) (N : Det Try.prog 40 [.a (seg x p y q sq ac fl wi ur ms sc d)] [] (.t [.a (seg x2 p2 y2 q2 sq2 ac2 fl2 wi2 ur2 ms2 sc2 d2), .o (.bool nb)]) []) (N' : Det Try.prog 41 [.a (seg x p y q sq ac fl wi ur ms sc d)] [] (.t [.a (seg x2 p2 y2 q2 sq2 ac2 fl2 wi2 ur2 ms2 sc2 d2), .o (.bool nb)]) []) (M : Det Try.prog 42 [.a (seg x p y q sq ac fl wi ur ms sc d)] [] (vB mb) []) (M' : Det Try.prog 43 [.a (seg x p y q sq ac fl wi ur ms sc d)] [] (vB mb) []) (L : Det Try.prog 44 [.a (seg x p y q sq ac fl wi ur ms sc d)] [] (vI .u32 ln) []) (L' : Det Try.prog 45 [.a (seg x p y q sq ac fl wi ur ms sc d)] [] (vI .u32 ln) []) :
    Can Try.prog 10 [.a (seg x p y q sq ac fl wi ur ms sc d), .o (.int .u32 f), .o (.int .u32 t), .o (.str s)] [] (fun v _ => v = vB true) := by
  refine can_of_W known mix Try.func10 (by kernel_rfl) ok_law16_TcpTells (Nat.le_of_ble_eq_true rfl) ?_
  repeat' ((conv => whnf); first
    | ((with_reducible refine Look.mk ?_); refine ⟨_, rfl, ?_⟩)
    | ((with_reducible refine LookN.zeros ?_))
    | ((with_reducible refine LookN.bytes ?_ ?_); (simp; done))
    | ((with_reducible refine BytesW.bytes ?_))
    | ((with_reducible refine Look.byte ?_ ?_); omega)
    | ((with_reducible refine Look.setb ?_ ?_ ?_); exact bv8_bd _; omega)
    | ((with_reducible refine LookN.setb ?_ ?_ ?_); exact bv8_bd _; omega)
    | ((with_reducible refine LookN.mk ?_); refine ⟨_, rfl, ?_⟩)
    | ((with_reducible refine Need.mk ?_ ?_); first | ((with_reducible refine needB ?_); kernel_rfl) | exact rfl | trivial | omega | exact Nat.le_of_ble_eq_true rfl | (exact ⟨rfl, by omega⟩) | (intro h; first | rfl | cases h) | (simp only [lenS_text, lenS_setN, lenS_zeros]; omega) | (simp only [ByteArray.size_append, size_lit, List.size_toArray, List.length_cons, List.length_nil, Sp.ofB_size, Sp.headB_size]; omega))
    | ((with_reducible refine BytesW.mk ?_); refine ⟨_, rfl, ?_⟩)
    | (with_reducible refine CallW.det (E) ?_)
    | (with_reducible refine CallW.det (E') ?_)
    | (with_reducible refine CallW.det (D) ?_)
    | (with_reducible refine CallW.det (D') ?_)
    | (with_reducible refine CallW.det (N) ?_)
    | (with_reducible refine CallW.det (N') ?_)
    | (with_reducible refine CallW.det (M) ?_)
    | (with_reducible refine CallW.det (M') ?_)
    | (with_reducible refine CallW.det (L) ?_)
    | (with_reducible refine CallW.det (L') ?_)
    | (with_reducible refine CallW.det (alive_det) ?_)
    | ((with_reducible refine Test.empty (fun h => ?_) (fun h => ?_)))
    | (with_reducible refine Test.tt ?_)
    | (with_reducible refine Test.ff ?_)
    | ((with_reducible refine Test.dt ?_ ?_); omega)
    | ((with_reducible refine Test.df ?_ ?_); omega)
    | (with_reducible refine Test.d (fun h => ?_) (fun h => ?_))
    | ((with_reducible refine Test.ieT ?_ ?_); omega)
    | ((with_reducible refine Test.ieF ?_ ?_); omega)
    | ((with_reducible refine Test.neT ?_ ?_); omega)
    | ((with_reducible refine Test.neF ?_ ?_); omega)
    | (with_reducible refine Test.ie (fun h => ?_) (fun h => ?_))
    | (with_reducible refine Test.ne (fun h => ?_) (fun h => ?_))
    | ((with_reducible refine Test.b ?_ ?_); (focus first | assumption | (simp [negB]; done) | exact rfl))
    | ((with_reducible refine Test.nb ?_ ?_); (focus first | assumption | (simp [negB]; done) | exact rfl))
    | (with_reducible refine Test.mk (fun h => ?_) (fun h => ?_))
    | (with_reducible refine Arith.bv8 ?_)
    | (with_reducible refine Arith.bv16 ?_)
    | (with_reducible refine Arith.bv32 ?_)
    | (with_reducible refine Arith.bv64 ?_)
    | ((with_reducible refine Arith.i64 ?_ ?_); omega)
    | ((with_reducible refine Arith.u64 ?_ ?_); omega)
    | ((with_reducible refine Arith.u32 ?_ ?_); omega)
    | ((with_reducible refine Arith.u16 ?_ ?_); omega)
    | ((with_reducible refine Arith.u8 ?_ ?_); omega)
    | ((with_reducible refine Arith.i32 ?_ ?_); omega)
    | ((with_reducible refine Arith.i64 ?_ ?_); simp (discharger := omega) only [Int.tdiv_eq_ediv_of_nonneg, shr_u8_4, shl_u8_4, shr_u16_4, shl_u16_4, shr_u16_8, shl_u16_8, shr_u32_4, shl_u32_4, shr_u32_8, shl_u32_8, shr_u32_16, shl_u32_16, shr_u32_24, shl_u32_24, shr_u64_4, shl_u64_4, shr_u64_8, shl_u64_8, shr_u64_16, shl_u64_16, shr_u64_24, shl_u64_24, shr_u64_40, shl_u64_40, shr_i64_4, shl_i64_4, shr_i64_8, shl_i64_8, shr_i64_16, shl_i64_16, shr_i64_24, shl_i64_24, shr_i64_40, shl_i64_40]; omega)
    | ((with_reducible refine Arith.u64 ?_ ?_); simp (discharger := omega) only [Int.tdiv_eq_ediv_of_nonneg, shr_u8_4, shl_u8_4, shr_u16_4, shl_u16_4, shr_u16_8, shl_u16_8, shr_u32_4, shl_u32_4, shr_u32_8, shl_u32_8, shr_u32_16, shl_u32_16, shr_u32_24, shl_u32_24, shr_u64_4, shl_u64_4, shr_u64_8, shl_u64_8, shr_u64_16, shl_u64_16, shr_u64_24, shl_u64_24, shr_u64_40, shl_u64_40, shr_i64_4, shl_i64_4, shr_i64_8, shl_i64_8, shr_i64_16, shl_i64_16, shr_i64_24, shl_i64_24, shr_i64_40, shl_i64_40]; omega)
    | ((with_reducible refine Arith.u32 ?_ ?_); simp (discharger := omega) only [Int.tdiv_eq_ediv_of_nonneg, shr_u8_4, shl_u8_4, shr_u16_4, shl_u16_4, shr_u16_8, shl_u16_8, shr_u32_4, shl_u32_4, shr_u32_8, shl_u32_8, shr_u32_16, shl_u32_16, shr_u32_24, shl_u32_24, shr_u64_4, shl_u64_4, shr_u64_8, shl_u64_8, shr_u64_16, shl_u64_16, shr_u64_24, shl_u64_24, shr_u64_40, shl_u64_40, shr_i64_4, shl_i64_4, shr_i64_8, shl_i64_8, shr_i64_16, shl_i64_16, shr_i64_24, shl_i64_24, shr_i64_40, shl_i64_40]; omega)
    | ((with_reducible refine Arith.u16 ?_ ?_); simp (discharger := omega) only [Int.tdiv_eq_ediv_of_nonneg, shr_u8_4, shl_u8_4, shr_u16_4, shl_u16_4, shr_u16_8, shl_u16_8, shr_u32_4, shl_u32_4, shr_u32_8, shl_u32_8, shr_u32_16, shl_u32_16, shr_u32_24, shl_u32_24, shr_u64_4, shl_u64_4, shr_u64_8, shl_u64_8, shr_u64_16, shl_u64_16, shr_u64_24, shl_u64_24, shr_u64_40, shl_u64_40, shr_i64_4, shl_i64_4, shr_i64_8, shl_i64_8, shr_i64_16, shl_i64_16, shr_i64_24, shl_i64_24, shr_i64_40, shl_i64_40]; omega)
    | ((with_reducible refine Arith.u8 ?_ ?_); simp (discharger := omega) only [Int.tdiv_eq_ediv_of_nonneg, shr_u8_4, shl_u8_4, shr_u16_4, shl_u16_4, shr_u16_8, shl_u16_8, shr_u32_4, shl_u32_4, shr_u32_8, shl_u32_8, shr_u32_16, shl_u32_16, shr_u32_24, shl_u32_24, shr_u64_4, shl_u64_4, shr_u64_8, shl_u64_8, shr_u64_16, shl_u64_16, shr_u64_24, shl_u64_24, shr_u64_40, shl_u64_40, shr_i64_4, shl_i64_4, shr_i64_8, shl_i64_8, shr_i64_16, shl_i64_16, shr_i64_24, shl_i64_24, shr_i64_40, shl_i64_40]; omega)
    | (with_reducible refine Arith.mk ?_)
    | (with_reducible refine Ends.mk ?_))
  all_goals rfl
set_option maxHeartbeats 1000000 in
theorem tells_far (x p y q sq ac fl wi ur ms sc : Int) (d : ByteArray) (f t : Int) (s : ByteArray) (h : ¬ ((d.size : Int) ≤ 131072 ∧ (s.size : Int) ≤ 131072)) : Can Try.prog 10 [.a (seg x p y q sq ac fl wi ur ms sc d), .o (.int .u32 f), .o (.int .u32 t), .o (.str s)] [] (fun v _ => v = vB true) := by
  by_cases h1 : (d.size : Int) ≤ 131072
  · refine can_of_W known mix Try.func10 (by kernel_rfl) ok_law16_TcpTells (Nat.le_of_ble_eq_true rfl) ?_
    repeat' ((conv => whnf); first
    | ((with_reducible refine Look.mk ?_); refine ⟨_, rfl, ?_⟩)
    | ((with_reducible refine LookN.zeros ?_))
    | ((with_reducible refine LookN.bytes ?_ ?_); (simp; done))
    | ((with_reducible refine BytesW.bytes ?_))
    | ((with_reducible refine Look.byte ?_ ?_); omega)
    | ((with_reducible refine Look.setb ?_ ?_ ?_); exact bv8_bd _; omega)
    | ((with_reducible refine LookN.setb ?_ ?_ ?_); exact bv8_bd _; omega)
    | ((with_reducible refine LookN.mk ?_); refine ⟨_, rfl, ?_⟩)
    | ((with_reducible refine Need.mk ?_ ?_); first | ((with_reducible refine needB ?_); kernel_rfl) | exact rfl | trivial | omega | exact Nat.le_of_ble_eq_true rfl | (exact ⟨rfl, by omega⟩) | (intro h; first | rfl | cases h) | (simp only [lenS_text, lenS_setN, lenS_zeros]; omega) | (simp only [ByteArray.size_append, size_lit, List.size_toArray, List.length_cons, List.length_nil, Sp.ofB_size, Sp.headB_size]; omega))
    | ((with_reducible refine BytesW.mk ?_); refine ⟨_, rfl, ?_⟩)
    | (with_reducible refine CallW.det (alive_det) ?_)
    | ((with_reducible refine Test.empty (fun h => ?_) (fun h => ?_)))
    | (with_reducible refine Test.tt ?_)
    | (with_reducible refine Test.ff ?_)
    | ((with_reducible refine Test.dt ?_ ?_); omega)
    | ((with_reducible refine Test.df ?_ ?_); omega)
    | (with_reducible refine Test.d (fun h => ?_) (fun h => ?_))
    | ((with_reducible refine Test.ieT ?_ ?_); omega)
    | ((with_reducible refine Test.ieF ?_ ?_); omega)
    | ((with_reducible refine Test.neT ?_ ?_); omega)
    | ((with_reducible refine Test.neF ?_ ?_); omega)
    | (with_reducible refine Test.ie (fun h => ?_) (fun h => ?_))
    | (with_reducible refine Test.ne (fun h => ?_) (fun h => ?_))
    | ((with_reducible refine Test.b ?_ ?_); (focus first | assumption | (simp [negB]; done) | exact rfl))
    | ((with_reducible refine Test.nb ?_ ?_); (focus first | assumption | (simp [negB]; done) | exact rfl))
    | (with_reducible refine Test.mk (fun h => ?_) (fun h => ?_))
    | (with_reducible refine Arith.bv8 ?_)
    | (with_reducible refine Arith.bv16 ?_)
    | (with_reducible refine Arith.bv32 ?_)
    | (with_reducible refine Arith.bv64 ?_)
    | ((with_reducible refine Arith.i64 ?_ ?_); omega)
    | ((with_reducible refine Arith.u64 ?_ ?_); omega)
    | ((with_reducible refine Arith.u32 ?_ ?_); omega)
    | ((with_reducible refine Arith.u16 ?_ ?_); omega)
    | ((with_reducible refine Arith.u8 ?_ ?_); omega)
    | ((with_reducible refine Arith.i32 ?_ ?_); omega)
    | ((with_reducible refine Arith.i64 ?_ ?_); simp (discharger := omega) only [Int.tdiv_eq_ediv_of_nonneg, shr_u8_4, shl_u8_4, shr_u16_4, shl_u16_4, shr_u16_8, shl_u16_8, shr_u32_4, shl_u32_4, shr_u32_8, shl_u32_8, shr_u32_16, shl_u32_16, shr_u32_24, shl_u32_24, shr_u64_4, shl_u64_4, shr_u64_8, shl_u64_8, shr_u64_16, shl_u64_16, shr_u64_24, shl_u64_24, shr_u64_40, shl_u64_40, shr_i64_4, shl_i64_4, shr_i64_8, shl_i64_8, shr_i64_16, shl_i64_16, shr_i64_24, shl_i64_24, shr_i64_40, shl_i64_40]; omega)
    | ((with_reducible refine Arith.u64 ?_ ?_); simp (discharger := omega) only [Int.tdiv_eq_ediv_of_nonneg, shr_u8_4, shl_u8_4, shr_u16_4, shl_u16_4, shr_u16_8, shl_u16_8, shr_u32_4, shl_u32_4, shr_u32_8, shl_u32_8, shr_u32_16, shl_u32_16, shr_u32_24, shl_u32_24, shr_u64_4, shl_u64_4, shr_u64_8, shl_u64_8, shr_u64_16, shl_u64_16, shr_u64_24, shl_u64_24, shr_u64_40, shl_u64_40, shr_i64_4, shl_i64_4, shr_i64_8, shl_i64_8, shr_i64_16, shl_i64_16, shr_i64_24, shl_i64_24, shr_i64_40, shl_i64_40]; omega)
    | ((with_reducible refine Arith.u32 ?_ ?_); simp (discharger := omega) only [Int.tdiv_eq_ediv_of_nonneg, shr_u8_4, shl_u8_4, shr_u16_4, shl_u16_4, shr_u16_8, shl_u16_8, shr_u32_4, shl_u32_4, shr_u32_8, shl_u32_8, shr_u32_16, shl_u32_16, shr_u32_24, shl_u32_24, shr_u64_4, shl_u64_4, shr_u64_8, shl_u64_8, shr_u64_16, shl_u64_16, shr_u64_24, shl_u64_24, shr_u64_40, shl_u64_40, shr_i64_4, shl_i64_4, shr_i64_8, shl_i64_8, shr_i64_16, shl_i64_16, shr_i64_24, shl_i64_24, shr_i64_40, shl_i64_40]; omega)
    | ((with_reducible refine Arith.u16 ?_ ?_); simp (discharger := omega) only [Int.tdiv_eq_ediv_of_nonneg, shr_u8_4, shl_u8_4, shr_u16_4, shl_u16_4, shr_u16_8, shl_u16_8, shr_u32_4, shl_u32_4, shr_u32_8, shl_u32_8, shr_u32_16, shl_u32_16, shr_u32_24, shl_u32_24, shr_u64_4, shl_u64_4, shr_u64_8, shl_u64_8, shr_u64_16, shl_u64_16, shr_u64_24, shl_u64_24, shr_u64_40, shl_u64_40, shr_i64_4, shl_i64_4, shr_i64_8, shl_i64_8, shr_i64_16, shl_i64_16, shr_i64_24, shl_i64_24, shr_i64_40, shl_i64_40]; omega)
    | ((with_reducible refine Arith.u8 ?_ ?_); simp (discharger := omega) only [Int.tdiv_eq_ediv_of_nonneg, shr_u8_4, shl_u8_4, shr_u16_4, shl_u16_4, shr_u16_8, shl_u16_8, shr_u32_4, shl_u32_4, shr_u32_8, shl_u32_8, shr_u32_16, shl_u32_16, shr_u32_24, shl_u32_24, shr_u64_4, shl_u64_4, shr_u64_8, shl_u64_8, shr_u64_16, shl_u64_16, shr_u64_24, shl_u64_24, shr_u64_40, shl_u64_40, shr_i64_4, shl_i64_4, shr_i64_8, shl_i64_8, shr_i64_16, shl_i64_16, shr_i64_24, shl_i64_24, shr_i64_40, shl_i64_40]; omega)
    | (with_reducible refine Arith.mk ?_)
    | (with_reducible refine Ends.mk ?_))
    all_goals rfl
  · refine can_of_W known mix Try.func10 (by kernel_rfl) ok_law16_TcpTells (Nat.le_of_ble_eq_true rfl) ?_
    repeat' ((conv => whnf); first
    | ((with_reducible refine Look.mk ?_); refine ⟨_, rfl, ?_⟩)
    | ((with_reducible refine LookN.zeros ?_))
    | ((with_reducible refine LookN.bytes ?_ ?_); (simp; done))
    | ((with_reducible refine BytesW.bytes ?_))
    | ((with_reducible refine Look.byte ?_ ?_); omega)
    | ((with_reducible refine Look.setb ?_ ?_ ?_); exact bv8_bd _; omega)
    | ((with_reducible refine LookN.setb ?_ ?_ ?_); exact bv8_bd _; omega)
    | ((with_reducible refine LookN.mk ?_); refine ⟨_, rfl, ?_⟩)
    | ((with_reducible refine Need.mk ?_ ?_); first | ((with_reducible refine needB ?_); kernel_rfl) | exact rfl | trivial | omega | exact Nat.le_of_ble_eq_true rfl | (exact ⟨rfl, by omega⟩) | (intro h; first | rfl | cases h) | (simp only [lenS_text, lenS_setN, lenS_zeros]; omega) | (simp only [ByteArray.size_append, size_lit, List.size_toArray, List.length_cons, List.length_nil, Sp.ofB_size, Sp.headB_size]; omega))
    | ((with_reducible refine BytesW.mk ?_); refine ⟨_, rfl, ?_⟩)
    | (with_reducible refine CallW.det (alive_det) ?_)
    | ((with_reducible refine Test.empty (fun h => ?_) (fun h => ?_)))
    | (with_reducible refine Test.tt ?_)
    | (with_reducible refine Test.ff ?_)
    | ((with_reducible refine Test.dt ?_ ?_); omega)
    | ((with_reducible refine Test.df ?_ ?_); omega)
    | (with_reducible refine Test.d (fun h => ?_) (fun h => ?_))
    | ((with_reducible refine Test.ieT ?_ ?_); omega)
    | ((with_reducible refine Test.ieF ?_ ?_); omega)
    | ((with_reducible refine Test.neT ?_ ?_); omega)
    | ((with_reducible refine Test.neF ?_ ?_); omega)
    | (with_reducible refine Test.ie (fun h => ?_) (fun h => ?_))
    | (with_reducible refine Test.ne (fun h => ?_) (fun h => ?_))
    | ((with_reducible refine Test.b ?_ ?_); (focus first | assumption | (simp [negB]; done) | exact rfl))
    | ((with_reducible refine Test.nb ?_ ?_); (focus first | assumption | (simp [negB]; done) | exact rfl))
    | (with_reducible refine Test.mk (fun h => ?_) (fun h => ?_))
    | (with_reducible refine Arith.bv8 ?_)
    | (with_reducible refine Arith.bv16 ?_)
    | (with_reducible refine Arith.bv32 ?_)
    | (with_reducible refine Arith.bv64 ?_)
    | ((with_reducible refine Arith.i64 ?_ ?_); omega)
    | ((with_reducible refine Arith.u64 ?_ ?_); omega)
    | ((with_reducible refine Arith.u32 ?_ ?_); omega)
    | ((with_reducible refine Arith.u16 ?_ ?_); omega)
    | ((with_reducible refine Arith.u8 ?_ ?_); omega)
    | ((with_reducible refine Arith.i32 ?_ ?_); omega)
    | ((with_reducible refine Arith.i64 ?_ ?_); simp (discharger := omega) only [Int.tdiv_eq_ediv_of_nonneg, shr_u8_4, shl_u8_4, shr_u16_4, shl_u16_4, shr_u16_8, shl_u16_8, shr_u32_4, shl_u32_4, shr_u32_8, shl_u32_8, shr_u32_16, shl_u32_16, shr_u32_24, shl_u32_24, shr_u64_4, shl_u64_4, shr_u64_8, shl_u64_8, shr_u64_16, shl_u64_16, shr_u64_24, shl_u64_24, shr_u64_40, shl_u64_40, shr_i64_4, shl_i64_4, shr_i64_8, shl_i64_8, shr_i64_16, shl_i64_16, shr_i64_24, shl_i64_24, shr_i64_40, shl_i64_40]; omega)
    | ((with_reducible refine Arith.u64 ?_ ?_); simp (discharger := omega) only [Int.tdiv_eq_ediv_of_nonneg, shr_u8_4, shl_u8_4, shr_u16_4, shl_u16_4, shr_u16_8, shl_u16_8, shr_u32_4, shl_u32_4, shr_u32_8, shl_u32_8, shr_u32_16, shl_u32_16, shr_u32_24, shl_u32_24, shr_u64_4, shl_u64_4, shr_u64_8, shl_u64_8, shr_u64_16, shl_u64_16, shr_u64_24, shl_u64_24, shr_u64_40, shl_u64_40, shr_i64_4, shl_i64_4, shr_i64_8, shl_i64_8, shr_i64_16, shl_i64_16, shr_i64_24, shl_i64_24, shr_i64_40, shl_i64_40]; omega)
    | ((with_reducible refine Arith.u32 ?_ ?_); simp (discharger := omega) only [Int.tdiv_eq_ediv_of_nonneg, shr_u8_4, shl_u8_4, shr_u16_4, shl_u16_4, shr_u16_8, shl_u16_8, shr_u32_4, shl_u32_4, shr_u32_8, shl_u32_8, shr_u32_16, shl_u32_16, shr_u32_24, shl_u32_24, shr_u64_4, shl_u64_4, shr_u64_8, shl_u64_8, shr_u64_16, shl_u64_16, shr_u64_24, shl_u64_24, shr_u64_40, shl_u64_40, shr_i64_4, shl_i64_4, shr_i64_8, shl_i64_8, shr_i64_16, shl_i64_16, shr_i64_24, shl_i64_24, shr_i64_40, shl_i64_40]; omega)
    | ((with_reducible refine Arith.u16 ?_ ?_); simp (discharger := omega) only [Int.tdiv_eq_ediv_of_nonneg, shr_u8_4, shl_u8_4, shr_u16_4, shl_u16_4, shr_u16_8, shl_u16_8, shr_u32_4, shl_u32_4, shr_u32_8, shl_u32_8, shr_u32_16, shl_u32_16, shr_u32_24, shl_u32_24, shr_u64_4, shl_u64_4, shr_u64_8, shl_u64_8, shr_u64_16, shl_u64_16, shr_u64_24, shl_u64_24, shr_u64_40, shl_u64_40, shr_i64_4, shl_i64_4, shr_i64_8, shl_i64_8, shr_i64_16, shl_i64_16, shr_i64_24, shl_i64_24, shr_i64_40, shl_i64_40]; omega)
    | ((with_reducible refine Arith.u8 ?_ ?_); simp (discharger := omega) only [Int.tdiv_eq_ediv_of_nonneg, shr_u8_4, shl_u8_4, shr_u16_4, shl_u16_4, shr_u16_8, shl_u16_8, shr_u32_4, shl_u32_4, shr_u32_8, shl_u32_8, shr_u32_16, shl_u32_16, shr_u32_24, shl_u32_24, shr_u64_4, shl_u64_4, shr_u64_8, shl_u64_8, shr_u64_16, shl_u64_16, shr_u64_24, shl_u64_24, shr_u64_40, shl_u64_40, shr_i64_4, shl_i64_4, shr_i64_8, shl_i64_8, shr_i64_16, shl_i64_16, shr_i64_24, shl_i64_24, shr_i64_40, shl_i64_40]; omega)
    | (with_reducible refine Arith.mk ?_)
    | (with_reducible refine Ends.mk ?_))
    all_goals rfl
theorem tells_row (x p y q sq ac fl wi ur ms sc : Int) (d : ByteArray) (f t : Int) (s : ByteArray) (w : World) (hx : 0 ≤ x ∧ x ≤ 4294967295) (hp : 0 ≤ p ∧ p ≤ 65535) (hy : 0 ≤ y ∧ y ≤ 4294967295) (hq : 0 ≤ q ∧ q ≤ 65535) (hsq : 0 ≤ sq ∧ sq ≤ 4294967295) (hac : 0 ≤ ac ∧ ac ≤ 4294967295) (hfl : 0 ≤ fl ∧ fl ≤ 255) (hwi : 0 ≤ wi ∧ wi ≤ 65535) (hur : 0 ≤ ur ∧ ur ≤ 65535) (hms : 0 ≤ ms ∧ ms ≤ 65535) (hsc : -9223372036854775808 ≤ sc ∧ sc ≤ 9223372036854775807) (hd : d.size ≤ maxLen) (hf : 0 ≤ f ∧ f ≤ 4294967295) (ht : 0 ≤ t ∧ t ≤ 4294967295) (hs : s.size ≤ maxLen) :
    Calls Try.prog 10 #[.agg #[.int .u32 x, .int .u16 p, .int .u32 y, .int .u16 q, .int .u32 sq, .int .u32 ac, .int .u8 fl, .int .u16 wi, .int .u16 ur, .int .u16 ms, .int .i64 sc, .string d], .int .u32 f, .int .u32 t, .string s] w fun e w' => e = .returned (.bool true) ∧ Below w.heap.size w w' := by
  by_cases h : (d.size : Int) ≤ 131072 ∧ (s.size : Int) ≤ 131072
  · obtain ⟨x1, p1, y1, q1, sq1, ac1, fl1, wi1, ur1, ms1, sc1, d1, h1⟩ := dec16_form f t s
    obtain ⟨x2, p2, y2, q2, sq2, ac2, fl2, wi2, ur2, ms2, sc2, d2, h2⟩ := ans16_form x p y q sq ac fl d
    have D := tdec_det f t s (by omega) hf ht
    have D' := rdec_det f t s (by omega) hf ht
    have N := ans_det x p y q sq ac fl wi ur ms sc d hd
    have N' := rans_det x p y q sq ac fl wi ur ms sc d hd
    rw [h1] at D D'
    rw [h2] at N N'
    exact calls_of_can (tells_gen x p y q sq ac fl wi ur ms sc d f t s _ _ _ x1 p1 y1 q1 sq1 ac1 fl1 wi1 ur1 ms1 sc1 d1 x2 p2 y2 q2 sq2 ac2 fl2 wi2 ur2 ms2 sc2 d2 _ _ _ h.1 h.2 (enc_det x p y q sq ac fl wi ur ms sc d hx hp hy hq hsq hac hfl hwi hur hms hsc (by omega)) (renc_det x p y q sq ac fl wi ur ms sc d hx hp hy hq hsq hac hfl hwi hur hms hsc (by omega)) D D' N N' (may_det ..) (rmay_det ..) (len_det x p y q sq ac fl wi ur ms sc d hd) (rlen_det x p y q sq ac fl wi ur ms sc d hd)) rfl rfl w
  · exact calls_of_can (tells_far x p y q sq ac fl wi ur ms sc d f t s h) rfl rfl w
theorem flag_t {fl b : Int} (h : ¬ (((BitVec.ofInt IntKind.u8.bits fl &&& BitVec.ofInt IntKind.u8.bits b).toNat : Nat) : Int) = 0) : flag fl b = true := bne_iff_ne.2 h
theorem flag_f {fl b : Int} (h : (((BitVec.ofInt IntKind.u8.bits fl &&& BitVec.ofInt IntKind.u8.bits b).toNat : Nat) : Int) = 0) : flag fl b = false := by unfold flag; rw [h]; rfl
theorem len16_eq (fl : Int) (d : ByteArray) (hd : (d.size : Int) ≤ 131072) : len16 fl d = d.size + (if flag fl 2 then 1 else 0) + (if flag fl 1 then 1 else 0) := by
  unfold len16; rw [IntKind.wrap_u32]; split <;> split <;> omega
theorem behind_len (a n : Int) (ha : 0 ≤ a ∧ a ≤ 4294967295) (hn : 0 ≤ n ∧ n ≤ 1000000) : Det Try.prog 47 [.o (.int .u32 a), .o (.int .u32 (IntKind.u32.wrap (a + n)))] [] (vI .i64 n) [] := by
  refine can_of_W known mix Try.func47 (by kernel_rfl) ok_seq_Behind (Nat.le_of_ble_eq_true rfl) ?_
  repeat' ((conv => whnf); first
    | ((with_reducible refine Look.mk ?_); refine ⟨_, rfl, ?_⟩)
    | ((with_reducible refine LookN.zeros ?_))
    | ((with_reducible refine LookN.bytes ?_ ?_); (simp; done))
    | ((with_reducible refine BytesW.bytes ?_))
    | ((with_reducible refine Look.byte ?_ ?_); omega)
    | ((with_reducible refine Look.setb ?_ ?_ ?_); exact bv8_bd _; omega)
    | ((with_reducible refine LookN.setb ?_ ?_ ?_); exact bv8_bd _; omega)
    | ((with_reducible refine LookN.mk ?_); refine ⟨_, rfl, ?_⟩)
    | ((with_reducible refine Need.mk ?_ ?_); first | ((with_reducible refine needB ?_); kernel_rfl) | exact rfl | trivial | omega | exact Nat.le_of_ble_eq_true rfl | (exact ⟨rfl, by omega⟩) | (intro h; first | rfl | cases h) | (simp only [lenS_text, lenS_setN, lenS_zeros]; omega) | (simp only [ByteArray.size_append, size_lit, List.size_toArray, List.length_cons, List.length_nil, Sp.ofB_size, Sp.headB_size]; omega))
    | ((with_reducible refine BytesW.mk ?_); refine ⟨_, rfl, ?_⟩)
    | ((with_reducible refine Arith.mk ?_))
    | ((with_reducible refine Test.empty (fun h => ?_) (fun h => ?_)))
    | (with_reducible refine Test.tt ?_)
    | (with_reducible refine Test.ff ?_)
    | ((with_reducible refine Test.dt ?_ ?_); omega)
    | ((with_reducible refine Test.df ?_ ?_); omega)
    | (with_reducible refine Test.d (fun h => ?_) (fun h => ?_))
    | ((with_reducible refine Test.ieT ?_ ?_); omega)
    | ((with_reducible refine Test.ieF ?_ ?_); omega)
    | ((with_reducible refine Test.neT ?_ ?_); omega)
    | ((with_reducible refine Test.neF ?_ ?_); omega)
    | (with_reducible refine Test.ie (fun h => ?_) (fun h => ?_))
    | (with_reducible refine Test.ne (fun h => ?_) (fun h => ?_))
    | ((with_reducible refine Test.b ?_ ?_); (focus first | assumption | (simp [negB]; done) | exact rfl))
    | ((with_reducible refine Test.nb ?_ ?_); (focus first | assumption | (simp [negB]; done) | exact rfl))
    | (with_reducible refine Test.mk (fun h => ?_) (fun h => ?_))
    | (with_reducible refine Arith.bv8 ?_)
    | (with_reducible refine Arith.bv16 ?_)
    | (with_reducible refine Arith.bv32 ?_)
    | (with_reducible refine Arith.bv64 ?_)
    | ((with_reducible refine Arith.i64 ?_ ?_); omega)
    | ((with_reducible refine Arith.u64 ?_ ?_); omega)
    | ((with_reducible refine Arith.u32 ?_ ?_); omega)
    | ((with_reducible refine Arith.u16 ?_ ?_); omega)
    | ((with_reducible refine Arith.u8 ?_ ?_); omega)
    | ((with_reducible refine Arith.i32 ?_ ?_); omega)
    | ((with_reducible refine Arith.i64 ?_ ?_); simp (discharger := omega) only [Int.tdiv_eq_ediv_of_nonneg, shr_u8_4, shl_u8_4, shr_u16_4, shl_u16_4, shr_u16_8, shl_u16_8, shr_u32_4, shl_u32_4, shr_u32_8, shl_u32_8, shr_u32_16, shl_u32_16, shr_u32_24, shl_u32_24, shr_u64_4, shl_u64_4, shr_u64_8, shl_u64_8, shr_u64_16, shl_u64_16, shr_u64_24, shl_u64_24, shr_u64_40, shl_u64_40, shr_i64_4, shl_i64_4, shr_i64_8, shl_i64_8, shr_i64_16, shl_i64_16, shr_i64_24, shl_i64_24, shr_i64_40, shl_i64_40]; omega)
    | ((with_reducible refine Arith.u64 ?_ ?_); simp (discharger := omega) only [Int.tdiv_eq_ediv_of_nonneg, shr_u8_4, shl_u8_4, shr_u16_4, shl_u16_4, shr_u16_8, shl_u16_8, shr_u32_4, shl_u32_4, shr_u32_8, shl_u32_8, shr_u32_16, shl_u32_16, shr_u32_24, shl_u32_24, shr_u64_4, shl_u64_4, shr_u64_8, shl_u64_8, shr_u64_16, shl_u64_16, shr_u64_24, shl_u64_24, shr_u64_40, shl_u64_40, shr_i64_4, shl_i64_4, shr_i64_8, shl_i64_8, shr_i64_16, shl_i64_16, shr_i64_24, shl_i64_24, shr_i64_40, shl_i64_40]; omega)
    | ((with_reducible refine Arith.u32 ?_ ?_); simp (discharger := omega) only [Int.tdiv_eq_ediv_of_nonneg, shr_u8_4, shl_u8_4, shr_u16_4, shl_u16_4, shr_u16_8, shl_u16_8, shr_u32_4, shl_u32_4, shr_u32_8, shl_u32_8, shr_u32_16, shl_u32_16, shr_u32_24, shl_u32_24, shr_u64_4, shl_u64_4, shr_u64_8, shl_u64_8, shr_u64_16, shl_u64_16, shr_u64_24, shl_u64_24, shr_u64_40, shl_u64_40, shr_i64_4, shl_i64_4, shr_i64_8, shl_i64_8, shr_i64_16, shl_i64_16, shr_i64_24, shl_i64_24, shr_i64_40, shl_i64_40]; omega)
    | ((with_reducible refine Arith.u16 ?_ ?_); simp (discharger := omega) only [Int.tdiv_eq_ediv_of_nonneg, shr_u8_4, shl_u8_4, shr_u16_4, shl_u16_4, shr_u16_8, shl_u16_8, shr_u32_4, shl_u32_4, shr_u32_8, shl_u32_8, shr_u32_16, shl_u32_16, shr_u32_24, shl_u32_24, shr_u64_4, shl_u64_4, shr_u64_8, shl_u64_8, shr_u64_16, shl_u64_16, shr_u64_24, shl_u64_24, shr_u64_40, shl_u64_40, shr_i64_4, shl_i64_4, shr_i64_8, shl_i64_8, shr_i64_16, shl_i64_16, shr_i64_24, shl_i64_24, shr_i64_40, shl_i64_40]; omega)
    | ((with_reducible refine Arith.u8 ?_ ?_); simp (discharger := omega) only [Int.tdiv_eq_ediv_of_nonneg, shr_u8_4, shl_u8_4, shr_u16_4, shl_u16_4, shr_u16_8, shl_u16_8, shr_u32_4, shl_u32_4, shr_u32_8, shl_u32_8, shr_u32_16, shl_u32_16, shr_u32_24, shl_u32_24, shr_u64_4, shl_u64_4, shr_u64_8, shl_u64_8, shr_u64_16, shl_u64_16, shr_u64_24, shl_u64_24, shr_u64_40, shl_u64_40, shr_i64_4, shl_i64_4, shr_i64_8, shl_i64_8, shr_i64_16, shl_i64_16, shr_i64_24, shl_i64_24, shr_i64_40, shl_i64_40]; omega)
    | (with_reducible refine Arith.mk ?_)
    | (with_reducible refine Ends.mk ?_))
  all_goals refine ⟨?_, rfl⟩
  all_goals (rw [IntKind.wrap_i64, IntKind.wrap_i32, IntKind.wrap_u32, IntKind.wrap_u32]; congr 1; congr 1; congr 1; omega)
theorem ans_rst (x p y q sq ac fl wi ur ms sc : Int) (d : ByteArray) (hd : d.size ≤ maxLen) (h : flag fl 4 = true) : Det Try.prog 40 [.a (seg x p y q sq ac fl wi ur ms sc d)] [] (.t [.a (seg 0 0 0 0 0 0 0 0 0 0 0 ⟨#[]⟩), .o (.bool false)]) [] := by
  have N := ans_det x p y q sq ac fl wi ur ms sc d hd
  have e : ans16 x p y q sq ac fl d = seg 0 0 0 0 0 0 0 0 0 0 0 ⟨#[]⟩ := by unfold ans16; rw [if_pos h]
  rw [e, show ansB fl = false by unfold ansB; rw [h]; rfl] at N
  exact N
set_option maxHeartbeats 4000000 in
theorem answers_near (x p y q sq ac fl wi ur ms sc : Int) (d : ByteArray) (hx : 0 ≤ x ∧ x ≤ 4294967295) (hp : 0 ≤ p ∧ p ≤ 65535) (hy : 0 ≤ y ∧ y ≤ 4294967295) (hq : 0 ≤ q ∧ q ≤ 65535) (hsq : 0 ≤ sq ∧ sq ≤ 4294967295) (hac : 0 ≤ ac ∧ ac ≤ 4294967295) (hfl : 0 ≤ fl ∧ fl ≤ 255) (hwi : 0 ≤ wi ∧ wi ≤ 65535) (hur : 0 ≤ ur ∧ ur ≤ 65535) (hms : 0 ≤ ms ∧ ms ≤ 65535) (hsc : -9223372036854775808 ≤ sc ∧ sc ≤ 9223372036854775807) (hd : (d.size : Int) ≤ 4096) : Can Try.prog 14 [.a (seg x p y q sq ac fl wi ur ms sc d)] [] (fun v _ => v = vB true) := by
  have hdm : d.size ≤ maxLen := by unfold maxLen; omega
  have N := ans_det x p y q sq ac fl wi ur ms sc d hdm
  have hL := len16_eq fl d (by omega)
  have LL := len_det x p y q sq ac fl wi ur ms sc d hdm
  have BH := behind_len sq (len16 fl d) hsq (by rw [hL]; split <;> split <;> omega)
  have R4 : ∀ s0 a0, Det Try.prog 40 [.a (seg y q x p s0 a0 4 0 0 0 (-1) ⟨#[]⟩)] [] (.t [.a (seg 0 0 0 0 0 0 0 0 0 0 0 ⟨#[]⟩), .o (.bool false)]) [] := fun s0 a0 => ans_rst y q x p s0 a0 4 0 0 0 (-1) ⟨#[]⟩ (Nat.zero_le _) (by decide)
  have R20 : ∀ s0 a0, Det Try.prog 40 [.a (seg y q x p s0 a0 20 0 0 0 (-1) ⟨#[]⟩)] [] (.t [.a (seg 0 0 0 0 0 0 0 0 0 0 0 ⟨#[]⟩), .o (.bool false)]) [] := fun s0 a0 => ans_rst y q x p s0 a0 20 0 0 0 (-1) ⟨#[]⟩ (Nat.zero_le _) (by decide)
  have M4 : ∀ s0 a0, Det Try.prog 42 [.a (seg y q x p s0 a0 4 0 0 0 (-1) ⟨#[]⟩)] [] (vB true) [] := fun s0 a0 => may_det ..
  have M20 : ∀ s0 a0, Det Try.prog 42 [.a (seg y q x p s0 a0 20 0 0 0 (-1) ⟨#[]⟩)] [] (vB true) [] := fun s0 a0 => may_det ..
  have L4 : ∀ s0 a0, Det Try.prog 44 [.a (seg y q x p s0 a0 4 0 0 0 (-1) ⟨#[]⟩)] [] (vI .u32 0) [] := fun s0 a0 => len_det y q x p s0 a0 4 0 0 0 (-1) ⟨#[]⟩ (Nat.zero_le _)
  have L20 : ∀ s0 a0, Det Try.prog 44 [.a (seg y q x p s0 a0 20 0 0 0 (-1) ⟨#[]⟩)] [] (vI .u32 0) [] := fun s0 a0 => len_det y q x p s0 a0 20 0 0 0 (-1) ⟨#[]⟩ (Nat.zero_le _)
  by_cases f4 : (((BitVec.ofInt IntKind.u8.bits fl &&& BitVec.ofInt IntKind.u8.bits 4).toNat : Nat) : Int) = 0
  · by_cases f16 : (((BitVec.ofInt IntKind.u8.bits fl &&& BitVec.ofInt IntKind.u8.bits 16).toNat : Nat) : Int) = 0
    · have e : ans16 x p y q sq ac fl d = seg y q x p 0 (IntKind.u32.wrap (sq + len16 fl d)) 20 0 0 0 (-1) ⟨#[]⟩ := by unfold ans16; rw [if_neg (by rw [flag_f f4]; simp), if_neg (by rw [flag_f f16]; simp)]
      rw [e, show ansB fl = true by unfold ansB; rw [flag_f f4]; rfl] at N
      by_cases f2 : (((BitVec.ofInt IntKind.u8.bits fl &&& BitVec.ofInt IntKind.u8.bits 2).toNat : Nat) : Int) = 0 <;> by_cases f1 : (((BitVec.ofInt IntKind.u8.bits fl &&& BitVec.ofInt IntKind.u8.bits 1).toNat : Nat) : Int) = 0
      all_goals simp only [flag_f, flag_t, f2, f1, not_false_eq_true, if_true, Bool.false_eq_true, if_false, Int.add_zero] at hL
      all_goals generalize len16 fl d = LN at *
      all_goals refine can_of_W known mix Try.func14 (by kernel_rfl) ok_law16_TcpAnswers (Nat.le_of_ble_eq_true rfl) ?_
      all_goals repeat' ((conv => whnf); first
    | ((with_reducible refine Look.mk ?_); refine ⟨_, rfl, ?_⟩)
    | ((with_reducible refine LookN.zeros ?_))
    | ((with_reducible refine LookN.bytes ?_ ?_); (simp; done))
    | ((with_reducible refine BytesW.bytes ?_))
    | ((with_reducible refine Look.byte ?_ ?_); omega)
    | ((with_reducible refine Look.setb ?_ ?_ ?_); exact bv8_bd _; omega)
    | ((with_reducible refine LookN.setb ?_ ?_ ?_); exact bv8_bd _; omega)
    | ((with_reducible refine LookN.mk ?_); refine ⟨_, rfl, ?_⟩)
    | ((with_reducible refine Need.mk ?_ ?_); first | ((with_reducible refine needB ?_); kernel_rfl) | exact rfl | trivial | omega | exact Nat.le_of_ble_eq_true rfl | (exact ⟨rfl, by omega⟩) | (intro h; first | rfl | cases h) | (simp only [lenS_text, lenS_setN, lenS_zeros]; omega) | (simp only [ByteArray.size_append, size_lit, List.size_toArray, List.length_cons, List.length_nil, Sp.ofB_size, Sp.headB_size]; omega))
    | ((with_reducible refine BytesW.mk ?_); refine ⟨_, rfl, ?_⟩)
    | (with_reducible refine CallW.det (N) ?_)
    | (with_reducible refine CallW.det (LL) ?_)
    | (with_reducible refine CallW.det (BH) ?_)
    | (with_reducible refine CallW.det (R4 ..) ?_)
    | (with_reducible refine CallW.det (R20 ..) ?_)
    | (with_reducible refine CallW.det (M4 ..) ?_)
    | (with_reducible refine CallW.det (M20 ..) ?_)
    | (with_reducible refine CallW.det (L4 ..) ?_)
    | (with_reducible refine CallW.det (L20 ..) ?_)
    | (with_reducible refine CallW.det (alive_det) ?_)
    | ((with_reducible refine Test.empty (fun h => ?_) (fun h => ?_)))
    | (with_reducible refine Test.tt ?_)
    | (with_reducible refine Test.ff ?_)
    | ((with_reducible refine Test.dt ?_ ?_); omega)
    | ((with_reducible refine Test.df ?_ ?_); omega)
    | (with_reducible refine Test.d (fun h => ?_) (fun h => ?_))
    | ((with_reducible refine Test.ieT ?_ ?_); omega)
    | ((with_reducible refine Test.ieF ?_ ?_); omega)
    | ((with_reducible refine Test.neT ?_ ?_); omega)
    | ((with_reducible refine Test.neF ?_ ?_); omega)
    | (with_reducible refine Test.ie (fun h => ?_) (fun h => ?_))
    | (with_reducible refine Test.ne (fun h => ?_) (fun h => ?_))
    | ((with_reducible refine Test.b ?_ ?_); (focus first | assumption | (simp [negB]; done) | exact rfl))
    | ((with_reducible refine Test.nb ?_ ?_); (focus first | assumption | (simp [negB]; done) | exact rfl))
    | (with_reducible refine Test.mk (fun h => ?_) (fun h => ?_))
    | (with_reducible refine Arith.bv8 ?_)
    | (with_reducible refine Arith.bv16 ?_)
    | (with_reducible refine Arith.bv32 ?_)
    | (with_reducible refine Arith.bv64 ?_)
    | ((with_reducible refine Arith.i64 ?_ ?_); omega)
    | ((with_reducible refine Arith.u64 ?_ ?_); omega)
    | ((with_reducible refine Arith.u32 ?_ ?_); omega)
    | ((with_reducible refine Arith.u16 ?_ ?_); omega)
    | ((with_reducible refine Arith.u8 ?_ ?_); omega)
    | ((with_reducible refine Arith.i32 ?_ ?_); omega)
    | ((with_reducible refine Arith.i64 ?_ ?_); simp (discharger := omega) only [Int.tdiv_eq_ediv_of_nonneg, shr_u8_4, shl_u8_4, shr_u16_4, shl_u16_4, shr_u16_8, shl_u16_8, shr_u32_4, shl_u32_4, shr_u32_8, shl_u32_8, shr_u32_16, shl_u32_16, shr_u32_24, shl_u32_24, shr_u64_4, shl_u64_4, shr_u64_8, shl_u64_8, shr_u64_16, shl_u64_16, shr_u64_24, shl_u64_24, shr_u64_40, shl_u64_40, shr_i64_4, shl_i64_4, shr_i64_8, shl_i64_8, shr_i64_16, shl_i64_16, shr_i64_24, shl_i64_24, shr_i64_40, shl_i64_40]; omega)
    | ((with_reducible refine Arith.u64 ?_ ?_); simp (discharger := omega) only [Int.tdiv_eq_ediv_of_nonneg, shr_u8_4, shl_u8_4, shr_u16_4, shl_u16_4, shr_u16_8, shl_u16_8, shr_u32_4, shl_u32_4, shr_u32_8, shl_u32_8, shr_u32_16, shl_u32_16, shr_u32_24, shl_u32_24, shr_u64_4, shl_u64_4, shr_u64_8, shl_u64_8, shr_u64_16, shl_u64_16, shr_u64_24, shl_u64_24, shr_u64_40, shl_u64_40, shr_i64_4, shl_i64_4, shr_i64_8, shl_i64_8, shr_i64_16, shl_i64_16, shr_i64_24, shl_i64_24, shr_i64_40, shl_i64_40]; omega)
    | ((with_reducible refine Arith.u32 ?_ ?_); simp (discharger := omega) only [Int.tdiv_eq_ediv_of_nonneg, shr_u8_4, shl_u8_4, shr_u16_4, shl_u16_4, shr_u16_8, shl_u16_8, shr_u32_4, shl_u32_4, shr_u32_8, shl_u32_8, shr_u32_16, shl_u32_16, shr_u32_24, shl_u32_24, shr_u64_4, shl_u64_4, shr_u64_8, shl_u64_8, shr_u64_16, shl_u64_16, shr_u64_24, shl_u64_24, shr_u64_40, shl_u64_40, shr_i64_4, shl_i64_4, shr_i64_8, shl_i64_8, shr_i64_16, shl_i64_16, shr_i64_24, shl_i64_24, shr_i64_40, shl_i64_40]; omega)
    | ((with_reducible refine Arith.u16 ?_ ?_); simp (discharger := omega) only [Int.tdiv_eq_ediv_of_nonneg, shr_u8_4, shl_u8_4, shr_u16_4, shl_u16_4, shr_u16_8, shl_u16_8, shr_u32_4, shl_u32_4, shr_u32_8, shl_u32_8, shr_u32_16, shl_u32_16, shr_u32_24, shl_u32_24, shr_u64_4, shl_u64_4, shr_u64_8, shl_u64_8, shr_u64_16, shl_u64_16, shr_u64_24, shl_u64_24, shr_u64_40, shl_u64_40, shr_i64_4, shl_i64_4, shr_i64_8, shl_i64_8, shr_i64_16, shl_i64_16, shr_i64_24, shl_i64_24, shr_i64_40, shl_i64_40]; omega)
    | ((with_reducible refine Arith.u8 ?_ ?_); simp (discharger := omega) only [Int.tdiv_eq_ediv_of_nonneg, shr_u8_4, shl_u8_4, shr_u16_4, shl_u16_4, shr_u16_8, shl_u16_8, shr_u32_4, shl_u32_4, shr_u32_8, shl_u32_8, shr_u32_16, shl_u32_16, shr_u32_24, shl_u32_24, shr_u64_4, shl_u64_4, shr_u64_8, shl_u64_8, shr_u64_16, shl_u64_16, shr_u64_24, shl_u64_24, shr_u64_40, shl_u64_40, shr_i64_4, shl_i64_4, shr_i64_8, shl_i64_8, shr_i64_16, shl_i64_16, shr_i64_24, shl_i64_24, shr_i64_40, shl_i64_40]; omega)
    | (with_reducible refine Arith.mk ?_)
    | (with_reducible refine Ends.mk ?_))
      all_goals rfl
    · have e : ans16 x p y q sq ac fl d = seg y q x p ac 0 4 0 0 0 (-1) ⟨#[]⟩ := by unfold ans16; rw [if_neg (by rw [flag_f f4]; simp), if_pos (flag_t f16)]
      rw [e, show ansB fl = true by unfold ansB; rw [flag_f f4]; rfl] at N
      by_cases f2 : (((BitVec.ofInt IntKind.u8.bits fl &&& BitVec.ofInt IntKind.u8.bits 2).toNat : Nat) : Int) = 0 <;> by_cases f1 : (((BitVec.ofInt IntKind.u8.bits fl &&& BitVec.ofInt IntKind.u8.bits 1).toNat : Nat) : Int) = 0
      all_goals simp only [flag_f, flag_t, f2, f1, not_false_eq_true, if_true, Bool.false_eq_true, if_false, Int.add_zero] at hL
      all_goals generalize len16 fl d = LN at *
      all_goals refine can_of_W known mix Try.func14 (by kernel_rfl) ok_law16_TcpAnswers (Nat.le_of_ble_eq_true rfl) ?_
      all_goals repeat' ((conv => whnf); first
    | ((with_reducible refine Look.mk ?_); refine ⟨_, rfl, ?_⟩)
    | ((with_reducible refine LookN.zeros ?_))
    | ((with_reducible refine LookN.bytes ?_ ?_); (simp; done))
    | ((with_reducible refine BytesW.bytes ?_))
    | ((with_reducible refine Look.byte ?_ ?_); omega)
    | ((with_reducible refine Look.setb ?_ ?_ ?_); exact bv8_bd _; omega)
    | ((with_reducible refine LookN.setb ?_ ?_ ?_); exact bv8_bd _; omega)
    | ((with_reducible refine LookN.mk ?_); refine ⟨_, rfl, ?_⟩)
    | ((with_reducible refine Need.mk ?_ ?_); first | ((with_reducible refine needB ?_); kernel_rfl) | exact rfl | trivial | omega | exact Nat.le_of_ble_eq_true rfl | (exact ⟨rfl, by omega⟩) | (intro h; first | rfl | cases h) | (simp only [lenS_text, lenS_setN, lenS_zeros]; omega) | (simp only [ByteArray.size_append, size_lit, List.size_toArray, List.length_cons, List.length_nil, Sp.ofB_size, Sp.headB_size]; omega))
    | ((with_reducible refine BytesW.mk ?_); refine ⟨_, rfl, ?_⟩)
    | (with_reducible refine CallW.det (N) ?_)
    | (with_reducible refine CallW.det (LL) ?_)
    | (with_reducible refine CallW.det (BH) ?_)
    | (with_reducible refine CallW.det (R4 ..) ?_)
    | (with_reducible refine CallW.det (R20 ..) ?_)
    | (with_reducible refine CallW.det (M4 ..) ?_)
    | (with_reducible refine CallW.det (M20 ..) ?_)
    | (with_reducible refine CallW.det (L4 ..) ?_)
    | (with_reducible refine CallW.det (L20 ..) ?_)
    | (with_reducible refine CallW.det (alive_det) ?_)
    | ((with_reducible refine Test.empty (fun h => ?_) (fun h => ?_)))
    | (with_reducible refine Test.tt ?_)
    | (with_reducible refine Test.ff ?_)
    | ((with_reducible refine Test.dt ?_ ?_); omega)
    | ((with_reducible refine Test.df ?_ ?_); omega)
    | (with_reducible refine Test.d (fun h => ?_) (fun h => ?_))
    | ((with_reducible refine Test.ieT ?_ ?_); omega)
    | ((with_reducible refine Test.ieF ?_ ?_); omega)
    | ((with_reducible refine Test.neT ?_ ?_); omega)
    | ((with_reducible refine Test.neF ?_ ?_); omega)
    | (with_reducible refine Test.ie (fun h => ?_) (fun h => ?_))
    | (with_reducible refine Test.ne (fun h => ?_) (fun h => ?_))
    | ((with_reducible refine Test.b ?_ ?_); (focus first | assumption | (simp [negB]; done) | exact rfl))
    | ((with_reducible refine Test.nb ?_ ?_); (focus first | assumption | (simp [negB]; done) | exact rfl))
    | (with_reducible refine Test.mk (fun h => ?_) (fun h => ?_))
    | (with_reducible refine Arith.bv8 ?_)
    | (with_reducible refine Arith.bv16 ?_)
    | (with_reducible refine Arith.bv32 ?_)
    | (with_reducible refine Arith.bv64 ?_)
    | ((with_reducible refine Arith.i64 ?_ ?_); omega)
    | ((with_reducible refine Arith.u64 ?_ ?_); omega)
    | ((with_reducible refine Arith.u32 ?_ ?_); omega)
    | ((with_reducible refine Arith.u16 ?_ ?_); omega)
    | ((with_reducible refine Arith.u8 ?_ ?_); omega)
    | ((with_reducible refine Arith.i32 ?_ ?_); omega)
    | ((with_reducible refine Arith.i64 ?_ ?_); simp (discharger := omega) only [Int.tdiv_eq_ediv_of_nonneg, shr_u8_4, shl_u8_4, shr_u16_4, shl_u16_4, shr_u16_8, shl_u16_8, shr_u32_4, shl_u32_4, shr_u32_8, shl_u32_8, shr_u32_16, shl_u32_16, shr_u32_24, shl_u32_24, shr_u64_4, shl_u64_4, shr_u64_8, shl_u64_8, shr_u64_16, shl_u64_16, shr_u64_24, shl_u64_24, shr_u64_40, shl_u64_40, shr_i64_4, shl_i64_4, shr_i64_8, shl_i64_8, shr_i64_16, shl_i64_16, shr_i64_24, shl_i64_24, shr_i64_40, shl_i64_40]; omega)
    | ((with_reducible refine Arith.u64 ?_ ?_); simp (discharger := omega) only [Int.tdiv_eq_ediv_of_nonneg, shr_u8_4, shl_u8_4, shr_u16_4, shl_u16_4, shr_u16_8, shl_u16_8, shr_u32_4, shl_u32_4, shr_u32_8, shl_u32_8, shr_u32_16, shl_u32_16, shr_u32_24, shl_u32_24, shr_u64_4, shl_u64_4, shr_u64_8, shl_u64_8, shr_u64_16, shl_u64_16, shr_u64_24, shl_u64_24, shr_u64_40, shl_u64_40, shr_i64_4, shl_i64_4, shr_i64_8, shl_i64_8, shr_i64_16, shl_i64_16, shr_i64_24, shl_i64_24, shr_i64_40, shl_i64_40]; omega)
    | ((with_reducible refine Arith.u32 ?_ ?_); simp (discharger := omega) only [Int.tdiv_eq_ediv_of_nonneg, shr_u8_4, shl_u8_4, shr_u16_4, shl_u16_4, shr_u16_8, shl_u16_8, shr_u32_4, shl_u32_4, shr_u32_8, shl_u32_8, shr_u32_16, shl_u32_16, shr_u32_24, shl_u32_24, shr_u64_4, shl_u64_4, shr_u64_8, shl_u64_8, shr_u64_16, shl_u64_16, shr_u64_24, shl_u64_24, shr_u64_40, shl_u64_40, shr_i64_4, shl_i64_4, shr_i64_8, shl_i64_8, shr_i64_16, shl_i64_16, shr_i64_24, shl_i64_24, shr_i64_40, shl_i64_40]; omega)
    | ((with_reducible refine Arith.u16 ?_ ?_); simp (discharger := omega) only [Int.tdiv_eq_ediv_of_nonneg, shr_u8_4, shl_u8_4, shr_u16_4, shl_u16_4, shr_u16_8, shl_u16_8, shr_u32_4, shl_u32_4, shr_u32_8, shl_u32_8, shr_u32_16, shl_u32_16, shr_u32_24, shl_u32_24, shr_u64_4, shl_u64_4, shr_u64_8, shl_u64_8, shr_u64_16, shl_u64_16, shr_u64_24, shl_u64_24, shr_u64_40, shl_u64_40, shr_i64_4, shl_i64_4, shr_i64_8, shl_i64_8, shr_i64_16, shl_i64_16, shr_i64_24, shl_i64_24, shr_i64_40, shl_i64_40]; omega)
    | ((with_reducible refine Arith.u8 ?_ ?_); simp (discharger := omega) only [Int.tdiv_eq_ediv_of_nonneg, shr_u8_4, shl_u8_4, shr_u16_4, shl_u16_4, shr_u16_8, shl_u16_8, shr_u32_4, shl_u32_4, shr_u32_8, shl_u32_8, shr_u32_16, shl_u32_16, shr_u32_24, shl_u32_24, shr_u64_4, shl_u64_4, shr_u64_8, shl_u64_8, shr_u64_16, shl_u64_16, shr_u64_24, shl_u64_24, shr_u64_40, shl_u64_40, shr_i64_4, shl_i64_4, shr_i64_8, shl_i64_8, shr_i64_16, shl_i64_16, shr_i64_24, shl_i64_24, shr_i64_40, shl_i64_40]; omega)
    | (with_reducible refine Arith.mk ?_)
    | (with_reducible refine Ends.mk ?_))
      all_goals rfl
  · have e : ans16 x p y q sq ac fl d = seg 0 0 0 0 0 0 0 0 0 0 0 ⟨#[]⟩ := by unfold ans16; rw [if_pos (flag_t f4)]
    rw [e, show ansB fl = false by unfold ansB; rw [flag_t f4]; rfl] at N
    by_cases f2 : (((BitVec.ofInt IntKind.u8.bits fl &&& BitVec.ofInt IntKind.u8.bits 2).toNat : Nat) : Int) = 0 <;> by_cases f1 : (((BitVec.ofInt IntKind.u8.bits fl &&& BitVec.ofInt IntKind.u8.bits 1).toNat : Nat) : Int) = 0
    all_goals simp only [flag_f, flag_t, f2, f1, not_false_eq_true, if_true, Bool.false_eq_true, if_false, Int.add_zero] at hL
    all_goals generalize len16 fl d = LN at *
    all_goals refine can_of_W known mix Try.func14 (by kernel_rfl) ok_law16_TcpAnswers (Nat.le_of_ble_eq_true rfl) ?_
    all_goals repeat' ((conv => whnf); first
    | ((with_reducible refine Look.mk ?_); refine ⟨_, rfl, ?_⟩)
    | ((with_reducible refine LookN.zeros ?_))
    | ((with_reducible refine LookN.bytes ?_ ?_); (simp; done))
    | ((with_reducible refine BytesW.bytes ?_))
    | ((with_reducible refine Look.byte ?_ ?_); omega)
    | ((with_reducible refine Look.setb ?_ ?_ ?_); exact bv8_bd _; omega)
    | ((with_reducible refine LookN.setb ?_ ?_ ?_); exact bv8_bd _; omega)
    | ((with_reducible refine LookN.mk ?_); refine ⟨_, rfl, ?_⟩)
    | ((with_reducible refine Need.mk ?_ ?_); first | ((with_reducible refine needB ?_); kernel_rfl) | exact rfl | trivial | omega | exact Nat.le_of_ble_eq_true rfl | (exact ⟨rfl, by omega⟩) | (intro h; first | rfl | cases h) | (simp only [lenS_text, lenS_setN, lenS_zeros]; omega) | (simp only [ByteArray.size_append, size_lit, List.size_toArray, List.length_cons, List.length_nil, Sp.ofB_size, Sp.headB_size]; omega))
    | ((with_reducible refine BytesW.mk ?_); refine ⟨_, rfl, ?_⟩)
    | (with_reducible refine CallW.det (N) ?_)
    | (with_reducible refine CallW.det (LL) ?_)
    | (with_reducible refine CallW.det (BH) ?_)
    | (with_reducible refine CallW.det (R4 ..) ?_)
    | (with_reducible refine CallW.det (R20 ..) ?_)
    | (with_reducible refine CallW.det (M4 ..) ?_)
    | (with_reducible refine CallW.det (M20 ..) ?_)
    | (with_reducible refine CallW.det (L4 ..) ?_)
    | (with_reducible refine CallW.det (L20 ..) ?_)
    | (with_reducible refine CallW.det (alive_det) ?_)
    | ((with_reducible refine Test.empty (fun h => ?_) (fun h => ?_)))
    | (with_reducible refine Test.tt ?_)
    | (with_reducible refine Test.ff ?_)
    | ((with_reducible refine Test.dt ?_ ?_); omega)
    | ((with_reducible refine Test.df ?_ ?_); omega)
    | (with_reducible refine Test.d (fun h => ?_) (fun h => ?_))
    | ((with_reducible refine Test.ieT ?_ ?_); omega)
    | ((with_reducible refine Test.ieF ?_ ?_); omega)
    | ((with_reducible refine Test.neT ?_ ?_); omega)
    | ((with_reducible refine Test.neF ?_ ?_); omega)
    | (with_reducible refine Test.ie (fun h => ?_) (fun h => ?_))
    | (with_reducible refine Test.ne (fun h => ?_) (fun h => ?_))
    | ((with_reducible refine Test.b ?_ ?_); (focus first | assumption | (simp [negB]; done) | exact rfl))
    | ((with_reducible refine Test.nb ?_ ?_); (focus first | assumption | (simp [negB]; done) | exact rfl))
    | (with_reducible refine Test.mk (fun h => ?_) (fun h => ?_))
    | (with_reducible refine Arith.bv8 ?_)
    | (with_reducible refine Arith.bv16 ?_)
    | (with_reducible refine Arith.bv32 ?_)
    | (with_reducible refine Arith.bv64 ?_)
    | ((with_reducible refine Arith.i64 ?_ ?_); omega)
    | ((with_reducible refine Arith.u64 ?_ ?_); omega)
    | ((with_reducible refine Arith.u32 ?_ ?_); omega)
    | ((with_reducible refine Arith.u16 ?_ ?_); omega)
    | ((with_reducible refine Arith.u8 ?_ ?_); omega)
    | ((with_reducible refine Arith.i32 ?_ ?_); omega)
    | ((with_reducible refine Arith.i64 ?_ ?_); simp (discharger := omega) only [Int.tdiv_eq_ediv_of_nonneg, shr_u8_4, shl_u8_4, shr_u16_4, shl_u16_4, shr_u16_8, shl_u16_8, shr_u32_4, shl_u32_4, shr_u32_8, shl_u32_8, shr_u32_16, shl_u32_16, shr_u32_24, shl_u32_24, shr_u64_4, shl_u64_4, shr_u64_8, shl_u64_8, shr_u64_16, shl_u64_16, shr_u64_24, shl_u64_24, shr_u64_40, shl_u64_40, shr_i64_4, shl_i64_4, shr_i64_8, shl_i64_8, shr_i64_16, shl_i64_16, shr_i64_24, shl_i64_24, shr_i64_40, shl_i64_40]; omega)
    | ((with_reducible refine Arith.u64 ?_ ?_); simp (discharger := omega) only [Int.tdiv_eq_ediv_of_nonneg, shr_u8_4, shl_u8_4, shr_u16_4, shl_u16_4, shr_u16_8, shl_u16_8, shr_u32_4, shl_u32_4, shr_u32_8, shl_u32_8, shr_u32_16, shl_u32_16, shr_u32_24, shl_u32_24, shr_u64_4, shl_u64_4, shr_u64_8, shl_u64_8, shr_u64_16, shl_u64_16, shr_u64_24, shl_u64_24, shr_u64_40, shl_u64_40, shr_i64_4, shl_i64_4, shr_i64_8, shl_i64_8, shr_i64_16, shl_i64_16, shr_i64_24, shl_i64_24, shr_i64_40, shl_i64_40]; omega)
    | ((with_reducible refine Arith.u32 ?_ ?_); simp (discharger := omega) only [Int.tdiv_eq_ediv_of_nonneg, shr_u8_4, shl_u8_4, shr_u16_4, shl_u16_4, shr_u16_8, shl_u16_8, shr_u32_4, shl_u32_4, shr_u32_8, shl_u32_8, shr_u32_16, shl_u32_16, shr_u32_24, shl_u32_24, shr_u64_4, shl_u64_4, shr_u64_8, shl_u64_8, shr_u64_16, shl_u64_16, shr_u64_24, shl_u64_24, shr_u64_40, shl_u64_40, shr_i64_4, shl_i64_4, shr_i64_8, shl_i64_8, shr_i64_16, shl_i64_16, shr_i64_24, shl_i64_24, shr_i64_40, shl_i64_40]; omega)
    | ((with_reducible refine Arith.u16 ?_ ?_); simp (discharger := omega) only [Int.tdiv_eq_ediv_of_nonneg, shr_u8_4, shl_u8_4, shr_u16_4, shl_u16_4, shr_u16_8, shl_u16_8, shr_u32_4, shl_u32_4, shr_u32_8, shl_u32_8, shr_u32_16, shl_u32_16, shr_u32_24, shl_u32_24, shr_u64_4, shl_u64_4, shr_u64_8, shl_u64_8, shr_u64_16, shl_u64_16, shr_u64_24, shl_u64_24, shr_u64_40, shl_u64_40, shr_i64_4, shl_i64_4, shr_i64_8, shl_i64_8, shr_i64_16, shl_i64_16, shr_i64_24, shl_i64_24, shr_i64_40, shl_i64_40]; omega)
    | ((with_reducible refine Arith.u8 ?_ ?_); simp (discharger := omega) only [Int.tdiv_eq_ediv_of_nonneg, shr_u8_4, shl_u8_4, shr_u16_4, shl_u16_4, shr_u16_8, shl_u16_8, shr_u32_4, shl_u32_4, shr_u32_8, shl_u32_8, shr_u32_16, shl_u32_16, shr_u32_24, shl_u32_24, shr_u64_4, shl_u64_4, shr_u64_8, shl_u64_8, shr_u64_16, shl_u64_16, shr_u64_24, shl_u64_24, shr_u64_40, shl_u64_40, shr_i64_4, shl_i64_4, shr_i64_8, shl_i64_8, shr_i64_16, shl_i64_16, shr_i64_24, shl_i64_24, shr_i64_40, shl_i64_40]; omega)
    | (with_reducible refine Arith.mk ?_)
    | (with_reducible refine Ends.mk ?_))
    all_goals rfl
theorem answers_far (x p y q sq ac fl wi ur ms sc : Int) (d : ByteArray) (hd : ¬ (d.size : Int) ≤ 4096) : Can Try.prog 14 [.a (seg x p y q sq ac fl wi ur ms sc d)] [] (fun v _ => v = vB true) := by
  refine can_of_W known mix Try.func14 (by kernel_rfl) ok_law16_TcpAnswers (Nat.le_of_ble_eq_true rfl) ?_
  repeat' ((conv => whnf); first
    | ((with_reducible refine Look.mk ?_); refine ⟨_, rfl, ?_⟩)
    | ((with_reducible refine LookN.zeros ?_))
    | ((with_reducible refine LookN.bytes ?_ ?_); (simp; done))
    | ((with_reducible refine BytesW.bytes ?_))
    | ((with_reducible refine Look.byte ?_ ?_); omega)
    | ((with_reducible refine Look.setb ?_ ?_ ?_); exact bv8_bd _; omega)
    | ((with_reducible refine LookN.setb ?_ ?_ ?_); exact bv8_bd _; omega)
    | ((with_reducible refine LookN.mk ?_); refine ⟨_, rfl, ?_⟩)
    | ((with_reducible refine Need.mk ?_ ?_); first | ((with_reducible refine needB ?_); kernel_rfl) | exact rfl | trivial | omega | exact Nat.le_of_ble_eq_true rfl | (exact ⟨rfl, by omega⟩) | (intro h; first | rfl | cases h) | (simp only [lenS_text, lenS_setN, lenS_zeros]; omega) | (simp only [ByteArray.size_append, size_lit, List.size_toArray, List.length_cons, List.length_nil, Sp.ofB_size, Sp.headB_size]; omega))
    | ((with_reducible refine BytesW.mk ?_); refine ⟨_, rfl, ?_⟩)
    | (with_reducible refine CallW.det (alive_det) ?_)
    | ((with_reducible refine Test.empty (fun h => ?_) (fun h => ?_)))
    | (with_reducible refine Test.tt ?_)
    | (with_reducible refine Test.ff ?_)
    | ((with_reducible refine Test.dt ?_ ?_); omega)
    | ((with_reducible refine Test.df ?_ ?_); omega)
    | (with_reducible refine Test.d (fun h => ?_) (fun h => ?_))
    | ((with_reducible refine Test.ieT ?_ ?_); omega)
    | ((with_reducible refine Test.ieF ?_ ?_); omega)
    | ((with_reducible refine Test.neT ?_ ?_); omega)
    | ((with_reducible refine Test.neF ?_ ?_); omega)
    | (with_reducible refine Test.ie (fun h => ?_) (fun h => ?_))
    | (with_reducible refine Test.ne (fun h => ?_) (fun h => ?_))
    | ((with_reducible refine Test.b ?_ ?_); (focus first | assumption | (simp [negB]; done) | exact rfl))
    | ((with_reducible refine Test.nb ?_ ?_); (focus first | assumption | (simp [negB]; done) | exact rfl))
    | (with_reducible refine Test.mk (fun h => ?_) (fun h => ?_))
    | (with_reducible refine Arith.bv8 ?_)
    | (with_reducible refine Arith.bv16 ?_)
    | (with_reducible refine Arith.bv32 ?_)
    | (with_reducible refine Arith.bv64 ?_)
    | ((with_reducible refine Arith.i64 ?_ ?_); omega)
    | ((with_reducible refine Arith.u64 ?_ ?_); omega)
    | ((with_reducible refine Arith.u32 ?_ ?_); omega)
    | ((with_reducible refine Arith.u16 ?_ ?_); omega)
    | ((with_reducible refine Arith.u8 ?_ ?_); omega)
    | ((with_reducible refine Arith.i32 ?_ ?_); omega)
    | ((with_reducible refine Arith.i64 ?_ ?_); simp (discharger := omega) only [Int.tdiv_eq_ediv_of_nonneg, shr_u8_4, shl_u8_4, shr_u16_4, shl_u16_4, shr_u16_8, shl_u16_8, shr_u32_4, shl_u32_4, shr_u32_8, shl_u32_8, shr_u32_16, shl_u32_16, shr_u32_24, shl_u32_24, shr_u64_4, shl_u64_4, shr_u64_8, shl_u64_8, shr_u64_16, shl_u64_16, shr_u64_24, shl_u64_24, shr_u64_40, shl_u64_40, shr_i64_4, shl_i64_4, shr_i64_8, shl_i64_8, shr_i64_16, shl_i64_16, shr_i64_24, shl_i64_24, shr_i64_40, shl_i64_40]; omega)
    | ((with_reducible refine Arith.u64 ?_ ?_); simp (discharger := omega) only [Int.tdiv_eq_ediv_of_nonneg, shr_u8_4, shl_u8_4, shr_u16_4, shl_u16_4, shr_u16_8, shl_u16_8, shr_u32_4, shl_u32_4, shr_u32_8, shl_u32_8, shr_u32_16, shl_u32_16, shr_u32_24, shl_u32_24, shr_u64_4, shl_u64_4, shr_u64_8, shl_u64_8, shr_u64_16, shl_u64_16, shr_u64_24, shl_u64_24, shr_u64_40, shl_u64_40, shr_i64_4, shl_i64_4, shr_i64_8, shl_i64_8, shr_i64_16, shl_i64_16, shr_i64_24, shl_i64_24, shr_i64_40, shl_i64_40]; omega)
    | ((with_reducible refine Arith.u32 ?_ ?_); simp (discharger := omega) only [Int.tdiv_eq_ediv_of_nonneg, shr_u8_4, shl_u8_4, shr_u16_4, shl_u16_4, shr_u16_8, shl_u16_8, shr_u32_4, shl_u32_4, shr_u32_8, shl_u32_8, shr_u32_16, shl_u32_16, shr_u32_24, shl_u32_24, shr_u64_4, shl_u64_4, shr_u64_8, shl_u64_8, shr_u64_16, shl_u64_16, shr_u64_24, shl_u64_24, shr_u64_40, shl_u64_40, shr_i64_4, shl_i64_4, shr_i64_8, shl_i64_8, shr_i64_16, shl_i64_16, shr_i64_24, shl_i64_24, shr_i64_40, shl_i64_40]; omega)
    | ((with_reducible refine Arith.u16 ?_ ?_); simp (discharger := omega) only [Int.tdiv_eq_ediv_of_nonneg, shr_u8_4, shl_u8_4, shr_u16_4, shl_u16_4, shr_u16_8, shl_u16_8, shr_u32_4, shl_u32_4, shr_u32_8, shl_u32_8, shr_u32_16, shl_u32_16, shr_u32_24, shl_u32_24, shr_u64_4, shl_u64_4, shr_u64_8, shl_u64_8, shr_u64_16, shl_u64_16, shr_u64_24, shl_u64_24, shr_u64_40, shl_u64_40, shr_i64_4, shl_i64_4, shr_i64_8, shl_i64_8, shr_i64_16, shl_i64_16, shr_i64_24, shl_i64_24, shr_i64_40, shl_i64_40]; omega)
    | ((with_reducible refine Arith.u8 ?_ ?_); simp (discharger := omega) only [Int.tdiv_eq_ediv_of_nonneg, shr_u8_4, shl_u8_4, shr_u16_4, shl_u16_4, shr_u16_8, shl_u16_8, shr_u32_4, shl_u32_4, shr_u32_8, shl_u32_8, shr_u32_16, shl_u32_16, shr_u32_24, shl_u32_24, shr_u64_4, shl_u64_4, shr_u64_8, shl_u64_8, shr_u64_16, shl_u64_16, shr_u64_24, shl_u64_24, shr_u64_40, shl_u64_40, shr_i64_4, shl_i64_4, shr_i64_8, shl_i64_8, shr_i64_16, shl_i64_16, shr_i64_24, shl_i64_24, shr_i64_40, shl_i64_40]; omega)
    | (with_reducible refine Arith.mk ?_)
    | (with_reducible refine Ends.mk ?_))
  all_goals rfl
theorem answers_row (x p y q sq ac fl wi ur ms sc : Int) (d : ByteArray) (w : World) (hx : 0 ≤ x ∧ x ≤ 4294967295) (hp : 0 ≤ p ∧ p ≤ 65535) (hy : 0 ≤ y ∧ y ≤ 4294967295) (hq : 0 ≤ q ∧ q ≤ 65535) (hsq : 0 ≤ sq ∧ sq ≤ 4294967295) (hac : 0 ≤ ac ∧ ac ≤ 4294967295) (hfl : 0 ≤ fl ∧ fl ≤ 255) (hwi : 0 ≤ wi ∧ wi ≤ 65535) (hur : 0 ≤ ur ∧ ur ≤ 65535) (hms : 0 ≤ ms ∧ ms ≤ 65535) (hsc : -9223372036854775808 ≤ sc ∧ sc ≤ 9223372036854775807) (hd : d.size ≤ maxLen) :
    Calls Try.prog 14 #[.agg #[.int .u32 x, .int .u16 p, .int .u32 y, .int .u16 q, .int .u32 sq, .int .u32 ac, .int .u8 fl, .int .u16 wi, .int .u16 ur, .int .u16 ms, .int .i64 sc, .string d]] w fun e w' => e = .returned (.bool true) ∧ Below w.heap.size w w' := by
  by_cases h : (d.size : Int) ≤ 4096
  · exact calls_of_can (answers_near x p y q sq ac fl wi ur ms sc d hx hp hy hq hsq hac hfl hwi hur hms hsc h) rfl rfl w
  · exact calls_of_can (answers_far x p y q sq ac fl wi ur ms sc d h) rfl rfl w
end L16
end Go.Proofs.Ytlpeefemffmpmaa.VM
