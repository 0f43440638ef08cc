/- law 10 by the evaluator: alive, and the law IpTells. -/
import Derived.Test.YtnmeeafnobfobaaV10c
import Derived.Test.YtnmeeafnobfobaaVBo
import Derived.Test.YtnmeeafnobfobaaP10
namespace Go.Proofs.Ytnmeeafnobfobaa.VM
namespace G2
open Go.RowKit
set_option linter.unusedVariables false
set_option linter.unusedSimpArgs false
set_option maxRecDepth 100000
def vf_law10_alive : VFn := ⟨(.seq (.reg [
    ⟨(some 0), .mv (.c (.p (.o (.bool false)))), none, 0⟩] 0 none) (.seq (.reg [
    ⟨(some 18), .bld [.int .u8 0, .int .u16 0, .bool false, .bool false, .int .i64 0, .int .u8 0, .int .u8 0, .int .u32 0, .int .u32 0, .str ⟨#[]⟩] [(5, 1, (.c (.p (.o (.int .u8 64))))), (6, 1, (.c (.p (.o (.int .u8 17))))), (7, 1, (.c (.p (.o (.int .u32 1))))), (8, 1, (.c (.p (.o (.int .u32 2)))))], none, 0⟩,
    ⟨(some 19), .call 26 [(.t 18), (.c (.p (.o (.str ⟨#[97, 98]⟩))))] 0, none, 0⟩,
    ⟨(some 17), .mv (.t 19), none, 0⟩,
    ⟨(some 20), .ext 0 (.t 17), none, 0⟩,
    ⟨(some 21), .ext 1 (.t 17), none, 0⟩,
    ⟨(some 1), .mv (.t 20), none, 0⟩,
    ⟨(some 2), .mv (.t 21), none, 0⟩] 0 none) (.seq (.reg [
    ⟨(some 23), .mv (.t 1), none, 0⟩,
    ⟨(some 24), .bin .add (.t 23) (.c (.p (.o (.str ⟨#[120, 121, 122]⟩)))), none, 0⟩,
    ⟨(some 25), .call 29 [(.t 24)] 0, none, 0⟩,
    ⟨(some 22), .mv (.t 25), none, 0⟩,
    ⟨(some 26), .ext 0 (.t 22), none, 0⟩,
    ⟨(some 27), .ext 1 (.t 22), none, 0⟩,
    ⟨(some 28), .ext 2 (.t 22), none, 0⟩,
    ⟨(some 3), .new [.int .u8 0, .int .u16 0, .bool false, .bool false, .int .i64 0, .int .u8 0, .int .u8 0, .int .u32 0, .int .u32 0, .str ⟨#[]⟩], none, 0⟩,
    ⟨none, .st 10 (.t 3) (.t 26), none, 1⟩,
    ⟨(some 4), .mv (.t 27), none, 1⟩,
    ⟨(some 5), .mv (.t 28), none, 1⟩] 1 none) (.seq (.reg [
    ⟨(some 30), .bld [.int .u8 0, .str ⟨#[]⟩] [(0, 1, (.c (.p (.o (.int .u8 7))))), (1, 1, (.c (.p (.o (.str ⟨#[120, 121]⟩)))))], none, 0⟩,
    ⟨(some 31), .bld [.int .u8 0, .str ⟨#[]⟩] [(0, 1, (.c (.p (.o (.int .u8 1)))))], none, 0⟩,
    ⟨(some 32), .bsl 2 [.int .u8 0, .str ⟨#[]⟩, .int .u8 0, .str ⟨#[]⟩] [(0, 2, (.t 30)), (2, 2, (.t 31))], none, 0⟩,
    ⟨(some 33), .call 37 [(.t 32)] 0, none, 1⟩,
    ⟨(some 29), .mv (.t 33), none, 1⟩,
    ⟨(some 34), .ext 0 (.t 29), none, 1⟩,
    ⟨(some 35), .ext 1 (.t 29), none, 1⟩,
    ⟨(some 6), .mv (.t 34), none, 1⟩,
    ⟨(some 7), .mv (.t 35), none, 1⟩] 1 none) (.seq (.reg [
    ⟨(some 37), .mv (.t 1), none, 0⟩,
    ⟨(some 38), .call 33 [(.t 37)] 0, none, 0⟩,
    ⟨(some 36), .mv (.t 38), none, 0⟩,
    ⟨(some 39), .ext 0 (.t 36), none, 0⟩,
    ⟨(some 40), .ext 1 (.t 36), none, 0⟩,
    ⟨(some 8), .mv (.t 39), none, 0⟩,
    ⟨(some 9), .mv (.t 40), none, 0⟩] 0 none) (.seq (.reg [
    ⟨(some 42), .bld [.int .u8 0, .int .u16 0, .bool false, .bool false, .int .i64 0, .int .u8 0, .int .u8 0, .int .u32 0, .int .u32 0, .str ⟨#[]⟩] [(5, 1, (.c (.p (.o (.int .u8 1)))))], none, 0⟩,
    ⟨(some 43), .call 26 [(.t 42), (.c (.p (.o (.str ⟨#[]⟩))))] 0, none, 0⟩,
    ⟨(some 41), .mv (.t 43), none, 0⟩,
    ⟨(some 44), .ext 0 (.t 41), none, 0⟩,
    ⟨(some 45), .ext 1 (.t 41), none, 0⟩,
    ⟨(some 10), .mv (.t 44), none, 0⟩,
    ⟨(some 11), .mv (.t 45), none, 0⟩] 0 none) (.seq (.reg [
    ⟨(some 47), .mv (.t 10), none, 0⟩,
    ⟨(some 48), .call 33 [(.t 47)] 0, none, 0⟩,
    ⟨(some 46), .mv (.t 48), none, 0⟩,
    ⟨(some 49), .ext 0 (.t 46), none, 0⟩,
    ⟨(some 50), .ext 1 (.t 46), none, 0⟩,
    ⟨(some 12), .mv (.t 49), none, 0⟩,
    ⟨(some 13), .mv (.t 50), none, 0⟩] 0 none) (.seq (.reg [
    ⟨(some 52), .mv (.t 1), none, 0⟩,
    ⟨(some 53), .call 35 [(.t 52), (.c (.p (.o (.int .i64 21))))] 0, none, 0⟩,
    ⟨(some 54), .call 29 [(.t 53)] 0, none, 0⟩,
    ⟨(some 51), .mv (.t 54), none, 0⟩,
    ⟨(some 55), .ext 0 (.t 51), none, 0⟩,
    ⟨(some 56), .ext 1 (.t 51), none, 0⟩,
    ⟨(some 57), .ext 2 (.t 51), none, 0⟩,
    ⟨(some 14), .new [.int .u8 0, .int .u16 0, .bool false, .bool false, .int .i64 0, .int .u8 0, .int .u8 0, .int .u32 0, .int .u32 0, .str ⟨#[]⟩], none, 0⟩,
    ⟨none, .st 10 (.t 14) (.t 55), none, 1⟩,
    ⟨(some 15), .mv (.t 56), none, 1⟩,
    ⟨(some 16), .mv (.t 57), none, 1⟩] 1 none) (.seq (.reg [
    ⟨(some 58), .mv (.t 1), none, 0⟩,
    ⟨(some 59), .len false (.t 58), none, 0⟩,
    ⟨(some 60), .bin .eql (.t 59) (.c (.p (.o (.int .i64 22)))), none, 0⟩,
    ⟨(some 61), .mv (.t 60), none, 0⟩,
    ⟨(some 62), .mv (.t 8), (some (61, true)), 0⟩,
    ⟨(some 63), .len false (.t 62), (some (61, true)), 0⟩,
    ⟨(some 64), .bin .gtr (.t 63) (.c (.p (.o (.int .i64 8)))), (some (61, true)), 0⟩,
    ⟨(some 65), .pick (.t 61) (.t 64) (.c (.p (.o (.bool false)))), none, 0⟩,
    ⟨(some 66), .mv (.t 65), none, 0⟩,
    ⟨(some 67), .mv (.t 1), (some (66, true)), 0⟩,
    ⟨(some 68), .sls (.t 67) none (some (.c (.p (.o (.int .i64 2))))), (some (66, true)), 0⟩,
    ⟨(some 69), .bin .eql (.t 68) (.c (.p (.o (.str ⟨#[69, 0]⟩)))), (some (66, true)), 0⟩,
    ⟨(some 70), .pick (.t 66) (.t 69) (.c (.p (.o (.bool false)))), none, 0⟩,
    ⟨(some 71), .mv (.t 70), none, 0⟩,
    ⟨(some 72), .mv (.t 2), (some (71, true)), 0⟩,
    ⟨(some 73), .bin .eql (.t 72) (.c (.p (.o (.int .i64 0)))), (some (71, true)), 0⟩,
    ⟨(some 74), .pick (.t 71) (.t 73) (.c (.p (.o (.bool false)))), none, 0⟩,
    ⟨(some 75), .mv (.t 74), none, 0⟩,
    ⟨(some 76), .mv (.t 4), (some (75, true)), 0⟩,
    ⟨(some 77), .bin .eql (.t 76) (.c (.p (.o (.str ⟨#[97, 98]⟩)))), (some (75, true)), 0⟩,
    ⟨(some 78), .pick (.t 75) (.t 77) (.c (.p (.o (.bool false)))), none, 0⟩,
    ⟨(some 79), .mv (.t 78), none, 0⟩,
    ⟨(some 80), .fad 5 (.t 3), (some (79, true)), 0⟩,
    ⟨(some 81), .ld none (.t 80), (some (79, true)), 0⟩,
    ⟨(some 82), .bin .eql (.t 81) (.c (.p (.o (.int .u8 64)))), (some (79, true)), 0⟩,
    ⟨(some 83), .pick (.t 79) (.t 82) (.c (.p (.o (.bool false)))), none, 0⟩,
    ⟨(some 84), .mv (.t 83), none, 0⟩,
    ⟨(some 85), .fad 8 (.t 3), (some (84, true)), 0⟩,
    ⟨(some 86), .ld none (.t 85), (some (84, true)), 0⟩,
    ⟨(some 87), .bin .eql (.t 86) (.c (.p (.o (.int .u32 2)))), (some (84, true)), 0⟩,
    ⟨(some 88), .pick (.t 84) (.t 87) (.c (.p (.o (.bool false)))), none, 0⟩,
    ⟨(some 89), .mv (.t 88), none, 0⟩,
    ⟨(some 90), .mv (.t 5), (some (89, true)), 0⟩,
    ⟨(some 91), .bin .eql (.t 90) (.c (.p (.o (.int .i64 0)))), (some (89, true)), 0⟩,
    ⟨(some 92), .pick (.t 89) (.t 91) (.c (.p (.o (.bool false)))), none, 0⟩,
    ⟨(some 93), .mv (.t 92), none, 0⟩,
    ⟨(some 94), .mv (.t 6), (some (93, true)), 0⟩,
    ⟨(some 95), .bin .eql (.t 94) (.c (.p (.o (.str ⟨#[7, 4, 120, 121, 1, 0, 0, 0]⟩)))), (some (93, true)), 0⟩,
    ⟨(some 96), .pick (.t 93) (.t 95) (.c (.p (.o (.bool false)))), none, 0⟩,
    ⟨(some 97), .mv (.t 96), none, 0⟩,
    ⟨(some 98), .mv (.t 7), (some (97, true)), 0⟩,
    ⟨(some 99), .bin .eql (.t 98) (.c (.p (.o (.int .i64 0)))), (some (97, true)), 0⟩,
    ⟨(some 100), .pick (.t 97) (.t 99) (.c (.p (.o (.bool false)))), none, 0⟩,
    ⟨(some 101), .mv (.t 100), none, 0⟩,
    ⟨(some 102), .mv (.t 9), (some (101, true)), 0⟩,
    ⟨(some 103), .bin .eql (.t 102) (.c (.p (.o (.int .i64 0)))), (some (101, true)), 0⟩,
    ⟨(some 104), .pick (.t 101) (.t 103) (.c (.p (.o (.bool false)))), none, 0⟩,
    ⟨(some 105), .mv (.t 104), none, 0⟩,
    ⟨(some 106), .mv (.t 8), (some (105, true)), 0⟩,
    ⟨(some 107), .ixs (.t 106) (.c (.p (.o (.int .i64 8)))), (some (105, true)), 0⟩,
    ⟨(some 108), .bin .eql (.t 107) (.c (.p (.o (.int .u8 63)))), (some (105, true)), 0⟩,
    ⟨(some 109), .pick (.t 105) (.t 108) (.c (.p (.o (.bool false)))), none, 0⟩,
    ⟨(some 110), .mv (.t 109), none, 0⟩,
    ⟨(some 111), .mv (.t 13), (some (110, true)), 0⟩,
    ⟨(some 112), .bin .eql (.t 111) (.c (.p (.o (.int .i64 9)))), (some (110, true)), 0⟩,
    ⟨(some 113), .pick (.t 110) (.t 112) (.c (.p (.o (.bool false)))), none, 0⟩,
    ⟨(some 114), .mv (.t 113), none, 0⟩,
    ⟨(some 115), .mv (.t 16), (some (114, true)), 0⟩,
    ⟨(some 116), .bin .eql (.t 115) (.c (.p (.o (.int .i64 10)))), (some (114, true)), 0⟩,
    ⟨(some 117), .pick (.t 114) (.t 116) (.c (.p (.o (.bool false)))), none, 0⟩,
    ⟨(some 118), .mv (.t 117), none, 0⟩,
    ⟨(some 119), .ld (some 10) (.t 3), (some (118, true)), 0⟩,
    ⟨(some 120), .call 31 [(.t 119)] 0, (some (118, true)), 0⟩,
    ⟨(some 121), .pick (.t 118) (.t 120) (.c (.p (.o (.bool false)))), none, 0⟩,
    ⟨(some 0), .mv (.t 121), none, 0⟩] 0 none) .ret))))))))),
  [.tmp 0], 122, [0, 1, 2, 3, 4, 5, 6, 7, 8, 9, 10, 13, 16]⟩
theorem ok_law10_alive : cFn Try.prog eqsT newsT vf_law10_alive.keep Try.f27 = some vf_law10_alive := by kernel_rfl
def vf_ip4_Pass : VFn := ⟨(.seq (.reg [
    ⟨(some 2), .mv (.c (.p (.o (.str ⟨#[]⟩)))), none, 0⟩,
    ⟨(some 3), .mv (.c (.p (.o (.int .i64 0)))), none, 0⟩] 0 none) (.seq (.reg [
    ⟨(some 10), .mv (.t 0), none, 0⟩,
    ⟨(some 11), .call 29 [(.t 10)] 0, none, 0⟩,
    ⟨(some 9), .mv (.t 11), none, 0⟩,
    ⟨(some 12), .ext 0 (.t 9), none, 0⟩,
    ⟨(some 13), .ext 1 (.t 9), none, 0⟩,
    ⟨(some 14), .ext 2 (.t 9), none, 0⟩,
    ⟨(some 4), .new [.int .u8 0, .int .u16 0, .bool false, .bool false, .int .i64 0, .int .u8 0, .int .u8 0, .int .u32 0, .int .u32 0, .str ⟨#[]⟩], none, 0⟩,
    ⟨none, .st 10 (.t 4) (.t 12), none, 1⟩,
    ⟨(some 5), .mv (.t 13), none, 1⟩,
    ⟨(some 6), .mv (.t 14), none, 1⟩] 1 none) (.seq (.block 0 (.seq (.reg [
    ⟨(some 16), .mv (.t 6), none, 0⟩,
    ⟨(some 17), .bin .neq (.t 16) (.c (.p (.o (.int .i64 0)))), none, 0⟩,
    ⟨(some 15), .mv (.t 17), none, 0⟩] 0 none) (.cond (.t 15) (.seq (.reg [
    ⟨(some 18), .mv (.t 6), none, 0⟩,
    ⟨(some 2), .mv (.c (.p (.o (.str ⟨#[]⟩)))), none, 0⟩,
    ⟨(some 3), .mv (.t 18), none, 0⟩] 0 none) .ret) (.seq (.reg [
    ⟨(some 20), .fad 5 (.t 4), none, 0⟩,
    ⟨(some 21), .ld none (.t 20), none, 0⟩,
    ⟨(some 22), .bin .lss (.t 21) (.c (.p (.o (.int .u8 2)))), none, 0⟩,
    ⟨(some 19), .mv (.t 22), none, 0⟩] 0 none) (.cond (.t 19) (.seq (.reg [
    ⟨(some 2), .mv (.c (.p (.o (.str ⟨#[]⟩)))), none, 0⟩,
    ⟨(some 3), .mv (.c (.p (.o (.int .i64 9)))), none, 0⟩] 0 none) .ret) .skip))))) (.seq (.reg [
    ⟨(some 23), .mv (.t 0), none, 0⟩,
    ⟨(some 24), .call 66 [(.t 23), (.c (.p (.o (.int .i64 8))))] 0, none, 0⟩,
    ⟨(some 25), .cvi .u16 (.t 24), none, 0⟩,
    ⟨(some 7), .mv (.t 25), none, 0⟩] 0 none) (.seq (.reg [
    ⟨(some 26), .mv (.t 0), none, 0⟩,
    ⟨(some 27), .call 66 [(.t 26), (.c (.p (.o (.int .i64 10))))] 0, none, 0⟩,
    ⟨(some 28), .cvi .u16 (.t 27), none, 0⟩,
    ⟨(some 29), .mv (.t 7), none, 0⟩,
    ⟨(some 30), .mv (.t 7), none, 0⟩,
    ⟨(some 31), .bin .sub (.t 30) (.c (.p (.o (.int .u16 256)))), none, 0⟩,
    ⟨(some 32), .call 71 [(.t 28), (.t 29), (.t 31)] 0, none, 0⟩,
    ⟨(some 8), .mv (.t 32), none, 0⟩] 0 none) (.seq (.reg [
    ⟨(some 33), .mv (.t 0), none, 0⟩,
    ⟨(some 34), .sls (.t 33) none (some (.c (.p (.o (.int .i64 8))))), none, 0⟩,
    ⟨(some 35), .mv (.t 7), none, 0⟩,
    ⟨(some 36), .bin .sub (.t 35) (.c (.p (.o (.int .u16 256)))), none, 0⟩,
    ⟨(some 37), .cvi .u64 (.t 36), none, 0⟩,
    ⟨(some 38), .call 44 [(.t 37), (.c (.p (.o (.int .i64 2))))] 0, none, 0⟩,
    ⟨(some 39), .bin .add (.t 34) (.t 38), none, 0⟩,
    ⟨(some 40), .mv (.t 8), none, 0⟩,
    ⟨(some 41), .cvi .u64 (.t 40), none, 0⟩,
    ⟨(some 42), .call 44 [(.t 41), (.c (.p (.o (.int .i64 2))))] 0, none, 0⟩,
    ⟨(some 43), .bin .add (.t 39) (.t 42), none, 0⟩,
    ⟨(some 44), .mv (.t 0), none, 0⟩,
    ⟨(some 45), .fad 9 (.t 4), none, 0⟩,
    ⟨(some 46), .ld none (.t 45), none, 0⟩,
    ⟨(some 47), .len false (.t 46), none, 0⟩,
    ⟨(some 48), .bin .add (.c (.p (.o (.int .i64 20)))) (.t 47), none, 0⟩,
    ⟨(some 49), .sls (.t 44) (some (.c (.p (.o (.int .i64 12))))) (some (.t 48)), none, 0⟩,
    ⟨(some 50), .bin .add (.t 43) (.t 49), none, 0⟩,
    ⟨(some 51), .mv (.t 5), none, 0⟩,
    ⟨(some 52), .bin .add (.t 50) (.t 51), none, 0⟩,
    ⟨(some 2), .mv (.t 52), none, 0⟩,
    ⟨(some 3), .mv (.c (.p (.o (.int .i64 0)))), none, 0⟩] 0 (some [(0, 2), (1, 2), (0, 3), (1, 3), (0, 4), (1, 4), (0, 5), (1, 5), (0, 7), (1, 7), (2, 7), (3, 7), (4, 7), (5, 7), (6, 7), (0, 8), (1, 8), (2, 8), (3, 8), (4, 8), (5, 8), (6, 8), (0, 9), (1, 9), (6, 9), (0, 11), (1, 11), (2, 11), (3, 11), (4, 11), (5, 11), (6, 11), (7, 11), (8, 11), (9, 11), (10, 11), (0, 12), (1, 12), (2, 12), (3, 12), (4, 12), (5, 12), (6, 12), (7, 12), (8, 12), (9, 12), (10, 12), (11, 12), (0, 13), (1, 13), (2, 13), (3, 13), (4, 13), (5, 13), (6, 13), (7, 13), (8, 13), (9, 13), (10, 13), (11, 13), (0, 14), (1, 14), (2, 14), (3, 14), (4, 14), (5, 14), (6, 14), (7, 14), (8, 14), (9, 14), (10, 14), (11, 14), (0, 15), (1, 15), (2, 15), (3, 15), (4, 15), (5, 15), (6, 15), (7, 15), (8, 15), (9, 15), (10, 15), (11, 15), (0, 16), (1, 16), (2, 16), (3, 16), (4, 16), (5, 16), (6, 16), (7, 16), (8, 16), (9, 16), (10, 16), (0, 18), (1, 18), (2, 18), (3, 18), (4, 18), (5, 18), (6, 18), (7, 18), (8, 18), (9, 18), (10, 18), (11, 18), (12, 18), (13, 18), (14, 18), (15, 18), (16, 18), (17, 18)])) .ret)))))),
  [.tmp 2, .tmp 3], 53, [0, 2, 3, 4, 5, 6, 7, 8]⟩
theorem ok_ip4_Pass : cFn Try.prog eqsT newsT vf_ip4_Pass.keep Try.f33 = some vf_ip4_Pass := by kernel_rfl
def vf_law10_cut : VFn := ⟨(.seq (.reg [
    ⟨(some 4), .mv (.c (.p (.o (.str ⟨#[]⟩)))), none, 0⟩] 0 none) (.seq (.seq (.reg [
    ⟨(some 5), .mv (.t 1), none, 0⟩,
    ⟨(some 6), .mv (.t 0), none, 0⟩,
    ⟨(some 7), .len false (.t 6), none, 0⟩,
    ⟨(some 8), .bin .gtr (.t 5) (.t 7), none, 0⟩] 0 none) (.cond (.t 8) (.seq (.reg [
    ⟨(some 9), .mv (.t 0), none, 0⟩,
    ⟨(some 4), .mv (.t 9), none, 0⟩] 0 none) .ret) .skip)) (.seq (.reg [
    ⟨(some 10), .mv (.t 0), none, 0⟩,
    ⟨(some 11), .mv (.t 1), none, 0⟩,
    ⟨(some 12), .sls (.t 10) none (some (.t 11)), none, 0⟩,
    ⟨(some 4), .mv (.t 12), none, 0⟩] 0 none) .ret))),
  [.tmp 4], 13, [0, 1, 4]⟩
theorem ok_law10_cut : cFn Try.prog eqsT newsT vf_law10_cut.keep Try.f35 = some vf_law10_cut := by kernel_rfl
def vf_word_Of : VFn := ⟨(.seq (.reg [
    ⟨(some 4), .mv (.c (.p (.o (.str ⟨#[]⟩)))), none, 0⟩] 0 none) (.seq (.reg [
    ⟨(some 5), .new [.int .u8 0, .int .u8 0, .int .u8 0, .int .u8 0, .int .u8 0, .int .u8 0, .int .u8 0, .int .u8 0], none, 0⟩] 1 none) (.seq (.seq (.reg [
    ⟨(some 7), .mv (.c (.p (.o (.int .i64 0)))), none, 0⟩] 0 none) (.block 0 (.loop (.seq (.reg [
    ⟨(some 8), .bin .lss (.t 7) (.c (.p (.o (.int .i64 8)))), none, 0⟩] 0 none) (.seq (.cond (.t 8) .skip (.exit 0)) (.seq (.block 1 (.seq (.reg [
    ⟨(some 9), .mv (.t 7), none, 0⟩,
    ⟨(some 6), .mv (.t 9), none, 0⟩] 0 none) (.reg [
    ⟨(some 10), .mv (.t 6), none, 0⟩,
    ⟨(some 11), .bin .sub (.c (.p (.o (.int .i64 7)))) (.t 10), none, 0⟩,
    ⟨(some 12), .mv (.t 0), none, 0⟩,
    ⟨(some 13), .mv (.t 6), none, 0⟩,
    ⟨(some 14), .bin .mul (.c (.p (.o (.int .i64 8)))) (.t 13), none, 0⟩,
    ⟨(some 15), .bin .shr (.t 12) (.t 14), none, 0⟩,
    ⟨(some 16), .cvi .u8 (.t 15), none, 0⟩,
    ⟨(some 17), .iaa 8 1 (.t 5) (.t 11), none, 0⟩,
    ⟨none, .st 1 (.t 17) (.t 16), none, 0⟩] 0 none))) (.reg [
    ⟨(some 18), .bin .add (.t 7) (.c (.p (.o (.int .i64 1)))), none, 0⟩,
    ⟨(some 7), .mv (.t 18), none, 0⟩] 0 none))))))) (.seq (.reg [
    ⟨(some 19), .mv (.t 1), none, 0⟩,
    ⟨(some 20), .mnx true (.t 19) (.c (.p (.o (.int .i64 0)))), none, 0⟩,
    ⟨(some 21), .mnx false (.t 20) (.c (.p (.o (.int .i64 8)))), none, 0⟩,
    ⟨(some 22), .bin .sub (.c (.p (.o (.int .i64 8)))) (.t 21), none, 0⟩,
    ⟨(some 23), .sla 8 1 (.t 5) (some (.t 22)) none, none, 0⟩,
    ⟨(some 24), .b2s (.t 23), none, 0⟩,
    ⟨(some 4), .mv (.t 24), none, 0⟩] 0 none) .ret)))),
  [.tmp 4], 25, [0, 1, 4, 5, 6, 7]⟩
theorem ok_word_Of : cFn Try.prog eqsT newsT vf_word_Of.keep Try.f44 = some vf_word_Of := by kernel_rfl
def vf_word_Four : VFn := ⟨(.seq (.reg [
    ⟨(some 4), .mv (.c (.p (.o (.int .u32 0)))), none, 0⟩,
    ⟨(some 5), .mv (.c (.p (.o (.int .i64 0)))), none, 0⟩] 0 none) (.seq (.reg [
    ⟨(some 6), .mv (.t 0), none, 0⟩,
    ⟨(some 7), .mv (.t 1), none, 0⟩,
    ⟨(some 8), .call 80 [(.t 6), (.t 7), (.c (.p (.o (.int .i64 4))))] 0, none, 0⟩,
    ⟨(some 9), .ext 0 (.t 8), none, 0⟩,
    ⟨(some 10), .ext 1 (.t 8), none, 0⟩,
    ⟨(some 4), .mv (.t 9), none, 0⟩,
    ⟨(some 5), .mv (.t 10), none, 0⟩] 0 none) .ret)),
  [.tmp 4, .tmp 5], 11, [0, 1, 4, 5]⟩
theorem ok_word_Four : cFn Try.prog eqsT newsT vf_word_Four.keep Try.f49 = some vf_word_Four := by kernel_rfl
def vf_sum_Turn : VFn := ⟨(.seq (.reg [
    ⟨(some 6), .mv (.c (.p (.o (.int .u16 0)))), none, 0⟩] 0 none) (.seq (.reg [
    ⟨(some 8), .mv (.t 0), none, 0⟩,
    ⟨(some 9), .un .xor (.t 8), none, 0⟩,
    ⟨(some 10), .cvi .u32 (.t 9), none, 0⟩,
    ⟨(some 11), .mv (.t 1), none, 0⟩,
    ⟨(some 12), .un .xor (.t 11), none, 0⟩,
    ⟨(some 13), .cvi .u32 (.t 12), none, 0⟩,
    ⟨(some 14), .bin .add (.t 10) (.t 13), none, 0⟩,
    ⟨(some 15), .mv (.t 2), none, 0⟩,
    ⟨(some 16), .cvi .u32 (.t 15), none, 0⟩,
    ⟨(some 17), .bin .add (.t 14) (.t 16), none, 0⟩,
    ⟨(some 7), .mv (.t 17), none, 0⟩] 0 none) (.seq (.reg [
    ⟨(some 18), .mv (.t 7), none, 0⟩,
    ⟨(some 19), .bin .and (.t 18) (.c (.p (.o (.int .u32 65535)))), none, 0⟩,
    ⟨(some 20), .mv (.t 7), none, 0⟩,
    ⟨(some 21), .bin .shr (.t 20) (.c (.p (.o (.int .u64 16)))), none, 0⟩,
    ⟨(some 22), .bin .add (.t 19) (.t 21), none, 0⟩,
    ⟨(some 7), .mv (.t 22), none, 0⟩] 0 none) (.seq (.reg [
    ⟨(some 23), .mv (.t 7), none, 0⟩,
    ⟨(some 24), .bin .and (.t 23) (.c (.p (.o (.int .u32 65535)))), none, 0⟩,
    ⟨(some 25), .mv (.t 7), none, 0⟩,
    ⟨(some 26), .bin .shr (.t 25) (.c (.p (.o (.int .u64 16)))), none, 0⟩,
    ⟨(some 27), .bin .add (.t 24) (.t 26), none, 0⟩,
    ⟨(some 7), .mv (.t 27), none, 0⟩] 0 none) (.seq (.reg [
    ⟨(some 28), .mv (.t 7), none, 0⟩,
    ⟨(some 29), .cvi .u16 (.t 28), none, 0⟩,
    ⟨(some 30), .un .xor (.t 29), none, 0⟩,
    ⟨(some 6), .mv (.t 30), none, 0⟩] 0 none) .ret))))),
  [.tmp 6], 31, [0, 1, 2, 6, 7]⟩
theorem ok_sum_Turn : cFn Try.prog eqsT newsT vf_sum_Turn.keep Try.f71 = some vf_sum_Turn := by kernel_rfl
def vf_word_read_uint32_ : VFn := ⟨(.seq (.reg [
    ⟨(some 6), .mv (.c (.p (.o (.int .u32 0)))), none, 0⟩,
    ⟨(some 7), .mv (.c (.p (.o (.int .i64 0)))), none, 0⟩] 0 none) (.seq (.reg [
    ⟨(some 12), .mv (.t 0), none, 0⟩,
    ⟨(some 13), .mv (.t 1), none, 0⟩,
    ⟨(some 14), .mv (.t 2), none, 0⟩,
    ⟨(some 15), .call 95 [(.t 12), (.t 13), (.t 14)] 0, none, 0⟩,
    ⟨(some 11), .mv (.t 15), none, 0⟩,
    ⟨(some 16), .ext 0 (.t 11), none, 0⟩,
    ⟨(some 17), .ext 1 (.t 11), none, 0⟩,
    ⟨(some 8), .mv (.t 16), none, 0⟩,
    ⟨(some 7), .mv (.t 17), none, 0⟩] 0 none) (.seq (.seq (.reg [
    ⟨(some 18), .mv (.t 8), none, 0⟩,
    ⟨(some 19), .s2b (.t 18), none, 0⟩,
    ⟨(some 20), .len true (.t 19), none, 1⟩,
    ⟨(some 21), .mv (.c (.p (.o (.int .i64 0)))), none, 1⟩] 1 none) (.block 0 (.loop (.seq (.reg [
    ⟨(some 22), .bin .lss (.t 21) (.t 20), none, 0⟩] 0 none) (.seq (.cond (.t 22) .skip (.exit 0)) (.seq (.block 1 (.seq (.reg [
    ⟨(some 23), .iad 1 (.t 19) (.t 21), none, 0⟩,
    ⟨(some 24), .ld none (.t 23), none, 0⟩,
    ⟨(some 10), .mv (.t 24), none, 0⟩] 0 none) (.reg [
    ⟨(some 25), .mv (.t 6), none, 0⟩,
    ⟨(some 26), .cvi .u64 (.t 25), none, 0⟩,
    ⟨(some 27), .bin .shl (.t 26) (.c (.p (.o (.int .u64 8)))), none, 0⟩,
    ⟨(some 28), .mv (.t 10), none, 0⟩,
    ⟨(some 29), .cvi .u64 (.t 28), none, 0⟩,
    ⟨(some 30), .bin .or (.t 27) (.t 29), none, 0⟩,
    ⟨(some 31), .cvi .u32 (.t 30), none, 0⟩,
    ⟨(some 6), .mv (.t 31), none, 0⟩] 0 none))) (.reg [
    ⟨(some 32), .bin .add (.t 21) (.c (.p (.o (.int .i64 1)))), none, 0⟩,
    ⟨(some 21), .mv (.t 32), none, 0⟩] 0 none))))))) (.seq (.reg [
    ⟨(some 33), .mv (.t 6), none, 0⟩,
    ⟨(some 34), .mv (.t 7), none, 0⟩,
    ⟨(some 6), .mv (.t 33), none, 0⟩,
    ⟨(some 7), .mv (.t 34), none, 0⟩] 0 none) .ret)))),
  [.tmp 6, .tmp 7], 35, [0, 1, 2, 6, 7, 8, 10, 19, 20, 21]⟩
theorem ok_word_read_uint32_ : cFn Try.prog eqsT newsT vf_word_read_uint32_.keep Try.f80 = some vf_word_read_uint32_ := by kernel_rfl
def vf_word_Two : VFn := ⟨(.seq (.reg [
    ⟨(some 4), .mv (.c (.p (.o (.int .u16 0)))), none, 0⟩,
    ⟨(some 5), .mv (.c (.p (.o (.int .i64 0)))), none, 0⟩] 0 none) (.seq (.reg [
    ⟨(some 6), .mv (.t 0), none, 0⟩,
    ⟨(some 7), .mv (.t 1), none, 0⟩,
    ⟨(some 8), .call 88 [(.t 6), (.t 7), (.c (.p (.o (.int .i64 2))))] 0, none, 0⟩,
    ⟨(some 9), .ext 0 (.t 8), none, 0⟩,
    ⟨(some 10), .ext 1 (.t 8), none, 0⟩,
    ⟨(some 4), .mv (.t 9), none, 0⟩,
    ⟨(some 5), .mv (.t 10), none, 0⟩] 0 none) .ret)),
  [.tmp 4, .tmp 5], 11, [0, 1, 4, 5]⟩
theorem ok_word_Two : cFn Try.prog eqsT newsT vf_word_Two.keep Try.f60 = some vf_word_Two := by kernel_rfl
def vf_word_Text : VFn := ⟨(.seq (.reg [
    ⟨(some 6), .mv (.c (.p (.o (.str ⟨#[]⟩)))), none, 0⟩,
    ⟨(some 7), .mv (.c (.p (.o (.int .i64 0)))), none, 0⟩] 0 none) (.seq (.block 0 (.seq (.reg [
    ⟨(some 9), .mv (.t 1), none, 0⟩,
    ⟨(some 10), .bin .lss (.t 9) (.c (.p (.o (.int .i64 0)))), none, 0⟩,
    ⟨(some 11), .mv (.t 10), none, 0⟩,
    ⟨(some 12), .mv (.t 2), (some (11, false)), 0⟩,
    ⟨(some 13), .bin .lss (.t 12) (.c (.p (.o (.int .i64 0)))), (some (11, false)), 0⟩,
    ⟨(some 14), .pick (.t 11) (.c (.p (.o (.bool true)))) (.t 13), none, 0⟩,
    ⟨(some 8), .mv (.t 14), none, 0⟩] 0 none) (.cond (.t 8) (.seq (.reg [
    ⟨(some 6), .mv (.c (.p (.o (.str ⟨#[]⟩)))), none, 0⟩,
    ⟨(some 7), .mv (.c (.p (.o (.int .i64 2)))), none, 0⟩] 0 none) .ret) (.seq (.reg [
    ⟨(some 16), .mv (.t 1), none, 0⟩,
    ⟨(some 17), .mv (.t 0), none, 0⟩,
    ⟨(some 18), .len false (.t 17), none, 0⟩,
    ⟨(some 19), .bin .gtr (.t 16) (.t 18), none, 0⟩,
    ⟨(some 20), .mv (.t 19), none, 0⟩,
    ⟨(some 21), .mv (.t 2), (some (20, false)), 0⟩,
    ⟨(some 22), .mv (.t 0), (some (20, false)), 0⟩,
    ⟨(some 23), .len false (.t 22), (some (20, false)), 0⟩,
    ⟨(some 24), .mv (.t 1), (some (20, false)), 0⟩,
    ⟨(some 25), .bin .sub (.t 23) (.t 24), (some (20, false)), 0⟩,
    ⟨(some 26), .bin .gtr (.t 21) (.t 25), (some (20, false)), 0⟩,
    ⟨(some 27), .pick (.t 20) (.c (.p (.o (.bool true)))) (.t 26), none, 0⟩,
    ⟨(some 15), .mv (.t 27), none, 0⟩] 0 none) (.cond (.t 15) (.seq (.reg [
    ⟨(some 6), .mv (.c (.p (.o (.str ⟨#[]⟩)))), none, 0⟩,
    ⟨(some 7), .mv (.c (.p (.o (.int .i64 10)))), none, 0⟩] 0 none) .ret) .skip))))) (.seq (.reg [
    ⟨(some 28), .mv (.t 0), none, 0⟩,
    ⟨(some 29), .mv (.t 1), none, 0⟩,
    ⟨(some 30), .mv (.t 1), none, 0⟩,
    ⟨(some 31), .mv (.t 2), none, 0⟩,
    ⟨(some 32), .bin .add (.t 30) (.t 31), none, 0⟩,
    ⟨(some 33), .sls (.t 28) (some (.t 29)) (some (.t 32)), none, 0⟩,
    ⟨(some 6), .mv (.t 33), none, 0⟩,
    ⟨(some 7), .mv (.c (.p (.o (.int .i64 0)))), none, 0⟩] 0 none) .ret))),
  [.tmp 6, .tmp 7], 34, [0, 1, 2, 6, 7]⟩
theorem ok_word_Text : cFn Try.prog eqsT newsT vf_word_Text.keep Try.f95 = some vf_word_Text := by kernel_rfl
def vf_word_read_uint16_ : VFn := ⟨(.seq (.reg [
    ⟨(some 6), .mv (.c (.p (.o (.int .u16 0)))), none, 0⟩,
    ⟨(some 7), .mv (.c (.p (.o (.int .i64 0)))), none, 0⟩] 0 none) (.seq (.reg [
    ⟨(some 12), .mv (.t 0), none, 0⟩,
    ⟨(some 13), .mv (.t 1), none, 0⟩,
    ⟨(some 14), .mv (.t 2), none, 0⟩,
    ⟨(some 15), .call 95 [(.t 12), (.t 13), (.t 14)] 0, none, 0⟩,
    ⟨(some 11), .mv (.t 15), none, 0⟩,
    ⟨(some 16), .ext 0 (.t 11), none, 0⟩,
    ⟨(some 17), .ext 1 (.t 11), none, 0⟩,
    ⟨(some 8), .mv (.t 16), none, 0⟩,
    ⟨(some 7), .mv (.t 17), none, 0⟩] 0 none) (.seq (.seq (.reg [
    ⟨(some 18), .mv (.t 8), none, 0⟩,
    ⟨(some 19), .s2b (.t 18), none, 0⟩,
    ⟨(some 20), .len true (.t 19), none, 1⟩,
    ⟨(some 21), .mv (.c (.p (.o (.int .i64 0)))), none, 1⟩] 1 none) (.block 0 (.loop (.seq (.reg [
    ⟨(some 22), .bin .lss (.t 21) (.t 20), none, 0⟩] 0 none) (.seq (.cond (.t 22) .skip (.exit 0)) (.seq (.block 1 (.seq (.reg [
    ⟨(some 23), .iad 1 (.t 19) (.t 21), none, 0⟩,
    ⟨(some 24), .ld none (.t 23), none, 0⟩,
    ⟨(some 10), .mv (.t 24), none, 0⟩] 0 none) (.reg [
    ⟨(some 25), .mv (.t 6), none, 0⟩,
    ⟨(some 26), .cvi .u64 (.t 25), none, 0⟩,
    ⟨(some 27), .bin .shl (.t 26) (.c (.p (.o (.int .u64 8)))), none, 0⟩,
    ⟨(some 28), .mv (.t 10), none, 0⟩,
    ⟨(some 29), .cvi .u64 (.t 28), none, 0⟩,
    ⟨(some 30), .bin .or (.t 27) (.t 29), none, 0⟩,
    ⟨(some 31), .cvi .u16 (.t 30), none, 0⟩,
    ⟨(some 6), .mv (.t 31), none, 0⟩] 0 none))) (.reg [
    ⟨(some 32), .bin .add (.t 21) (.c (.p (.o (.int .i64 1)))), none, 0⟩,
    ⟨(some 21), .mv (.t 32), none, 0⟩] 0 none))))))) (.seq (.reg [
    ⟨(some 33), .mv (.t 6), none, 0⟩,
    ⟨(some 34), .mv (.t 7), none, 0⟩,
    ⟨(some 6), .mv (.t 33), none, 0⟩,
    ⟨(some 7), .mv (.t 34), none, 0⟩] 0 none) .ret)))),
  [.tmp 6, .tmp 7], 35, [0, 1, 2, 6, 7, 8, 10, 19, 20, 21]⟩
theorem ok_word_read_uint16_ : cFn Try.prog eqsT newsT vf_word_read_uint16_.keep Try.f88 = some vf_word_read_uint16_ := by kernel_rfl
def tab10 : List (FuncId × VFn) := [(27, vf_law10_alive), (26, vf_ip4_Encode), (29, vf_ip4_Decode), (31, vf_ip4_May), (33, vf_ip4_Pass), (35, vf_law10_cut), (44, vf_word_Of), (61, vf_ip4_whole), (62, vf_ip4_fits), (49, vf_word_Four), (66, vf_ip4_two), (67, vf_ip4_when), (68, vf_ip4_Decode_1), (71, vf_sum_Turn), (80, vf_word_read_uint32_), (60, vf_word_Two), (89, vf_ip4_when_1), (95, vf_word_Text), (88, vf_word_read_uint16_)]
theorem tab10_ok : TabOk Try.prog tab10 := ⟨fnOk_of known mix Try.func27 (by kernel_rfl) ok_law10_alive, fnOk_of known mix Try.func26 (by kernel_rfl) ok_ip4_Encode, fnOk_of known mix Try.func29 (by kernel_rfl) ok_ip4_Decode, fnOk_of known mix Try.func31 (by kernel_rfl) ok_ip4_May, fnOk_of known mix Try.func33 (by kernel_rfl) ok_ip4_Pass, fnOk_of known mix Try.func35 (by kernel_rfl) ok_law10_cut, fnOk_of known mix Try.func44 (by kernel_rfl) ok_word_Of, fnOk_of known mix Try.func61 (by kernel_rfl) ok_ip4_whole, fnOk_of known mix Try.func62 (by kernel_rfl) ok_ip4_fits, fnOk_of known mix Try.func49 (by kernel_rfl) ok_word_Four, fnOk_of known mix Try.func66 (by kernel_rfl) ok_ip4_two, fnOk_of known mix Try.func67 (by kernel_rfl) ok_ip4_when, fnOk_of known mix Try.func68 (by kernel_rfl) ok_ip4_Decode_1, fnOk_of known mix Try.func71 (by kernel_rfl) ok_sum_Turn, fnOk_of known mix Try.func80 (by kernel_rfl) ok_word_read_uint32_, fnOk_of known mix Try.func60 (by kernel_rfl) ok_word_Two, fnOk_of known mix Try.func89 (by kernel_rfl) ok_ip4_when_1, fnOk_of known mix Try.func95 (by kernel_rfl) ok_word_Text, fnOk_of known mix Try.func88 (by kernel_rfl) ok_word_read_uint16_, trivial⟩
theorem alive10_det : Det Try.prog 27 [] [] (vB true) [] := execF_s tab10_ok baseO_ok 40 _ _ _ _ _ (by kernel_rfl)
def vf_law10_IpTells : VFn := ⟨(.seq (.reg [
    ⟨(some 3), .box (.t 0), none, 0⟩,
    ⟨(some 6), .mv (.c (.p (.o (.bool false)))), none, 1⟩] 1 none) (.seq (.seq (.reg [
    ⟨(some 17), .ld (some 10) (.t 3), none, 0⟩,
    ⟨(some 18), .mv (.t 1), none, 0⟩,
    ⟨(some 19), .call 25 [(.t 17), (.t 18)] 0, none, 0⟩,
    ⟨(some 20), .mv (.t 19), none, 0⟩,
    ⟨(some 21), .mv (.t 2), (some (20, false)), 0⟩,
    ⟨(some 22), .len false (.t 21), (some (20, false)), 0⟩,
    ⟨(some 23), .bin .gtr (.t 22) (.c (.p (.o (.int .i64 131072)))), (some (20, false)), 0⟩,
    ⟨(some 24), .pick (.t 20) (.c (.p (.o (.bool true)))) (.t 23), none, 0⟩] 0 none) (.cond (.t 24) (.seq (.reg [
    ⟨(some 25), .call 27 [] 0, none, 0⟩,
    ⟨(some 6), .mv (.t 25), none, 0⟩] 0 none) .ret) .skip)) (.seq (.reg [
    ⟨(some 27), .ld (some 10) (.t 3), none, 0⟩,
    ⟨(some 28), .mv (.t 1), none, 0⟩,
    ⟨(some 29), .call 26 [(.t 27), (.t 28)] 0, none, 0⟩,
    ⟨(some 26), .mv (.t 29), none, 0⟩,
    ⟨(some 30), .ext 0 (.t 26), none, 0⟩,
    ⟨(some 31), .ext 1 (.t 26), none, 0⟩,
    ⟨(some 7), .mv (.t 30), none, 0⟩,
    ⟨(some 8), .mv (.t 31), none, 0⟩] 0 none) (.seq (.reg [
    ⟨(some 33), .ld (some 10) (.t 3), none, 0⟩,
    ⟨(some 34), .mv (.t 1), none, 0⟩,
    ⟨(some 35), .call 28 [(.t 33), (.t 34)] 0, none, 0⟩,
    ⟨(some 32), .mv (.t 35), none, 0⟩,
    ⟨(some 36), .ext 0 (.t 32), none, 0⟩,
    ⟨(some 37), .ext 1 (.t 32), none, 0⟩,
    ⟨(some 9), .mv (.t 36), none, 0⟩,
    ⟨(some 10), .mv (.t 37), none, 0⟩] 0 none) (.seq (.reg [
    ⟨(some 39), .mv (.t 2), none, 0⟩,
    ⟨(some 40), .call 29 [(.t 39)] 0, none, 0⟩,
    ⟨(some 38), .mv (.t 40), none, 0⟩,
    ⟨(some 41), .ext 0 (.t 38), none, 0⟩,
    ⟨(some 42), .ext 1 (.t 38), none, 0⟩,
    ⟨(some 43), .ext 2 (.t 38), none, 0⟩,
    ⟨(some 11), .new [.int .u8 0, .int .u16 0, .bool false, .bool false, .int .i64 0, .int .u8 0, .int .u8 0, .int .u32 0, .int .u32 0, .str ⟨#[]⟩], none, 0⟩,
    ⟨none, .st 10 (.t 11) (.t 41), none, 1⟩,
    ⟨(some 12), .mv (.t 42), none, 1⟩,
    ⟨(some 13), .mv (.t 43), none, 1⟩] 1 none) (.seq (.reg [
    ⟨(some 45), .mv (.t 2), none, 0⟩,
    ⟨(some 46), .call 30 [(.t 45)] 0, none, 0⟩,
    ⟨(some 44), .mv (.t 46), none, 0⟩,
    ⟨(some 47), .ext 0 (.t 44), none, 0⟩,
    ⟨(some 48), .ext 1 (.t 44), none, 0⟩,
    ⟨(some 49), .ext 2 (.t 44), none, 0⟩,
    ⟨(some 14), .new [.int .u8 0, .int .u16 0, .bool false, .bool false, .int .i64 0, .int .u8 0, .int .u8 0, .int .u32 0, .int .u32 0, .str ⟨#[]⟩], none, 0⟩,
    ⟨none, .st 10 (.t 14) (.t 47), none, 1⟩,
    ⟨(some 15), .mv (.t 48), none, 1⟩,
    ⟨(some 16), .mv (.t 49), none, 1⟩] 1 none) (.seq (.reg [
    ⟨(some 50), .ld (some 10) (.t 3), none, 0⟩,
    ⟨(some 51), .call 31 [(.t 50)] 0, none, 0⟩,
    ⟨(some 52), .ld (some 10) (.t 3), none, 0⟩,
    ⟨(some 53), .call 32 [(.t 52)] 0, none, 0⟩,
    ⟨(some 54), .eq .bool false (.t 51) (.t 53), none, 0⟩,
    ⟨(some 55), .mv (.t 54), none, 0⟩,
    ⟨(some 56), .mv (.t 7), (some (55, true)), 0⟩,
    ⟨(some 57), .mv (.t 9), (some (55, true)), 0⟩,
    ⟨(some 58), .bin .eql (.t 56) (.t 57), (some (55, true)), 0⟩,
    ⟨(some 59), .pick (.t 55) (.t 58) (.c (.p (.o (.bool false)))), none, 0⟩,
    ⟨(some 60), .mv (.t 59), none, 0⟩,
    ⟨(some 61), .mv (.t 8), (some (60, true)), 0⟩,
    ⟨(some 62), .mv (.t 10), (some (60, true)), 0⟩,
    ⟨(some 63), .bin .eql (.t 61) (.t 62), (some (60, true)), 0⟩,
    ⟨(some 64), .pick (.t 60) (.t 63) (.c (.p (.o (.bool false)))), none, 0⟩,
    ⟨(some 65), .mv (.t 64), none, 0⟩,
    ⟨(some 66), .ld (some 10) (.t 11), (some (65, true)), 0⟩,
    ⟨(some 67), .ld (some 10) (.t 14), (some (65, true)), 0⟩,
    ⟨(some 68), .eq (.flat [.int .u8, .int .u16, .bool, .bool, .int .i64, .int .u8, .int .u8, .int .u32, .int .u32, .str]) false (.t 66) (.t 67), (some (65, true)), 0⟩,
    ⟨(some 69), .pick (.t 65) (.t 68) (.c (.p (.o (.bool false)))), none, 0⟩,
    ⟨(some 70), .mv (.t 69), none, 0⟩,
    ⟨(some 71), .mv (.t 12), (some (70, true)), 0⟩,
    ⟨(some 72), .mv (.t 15), (some (70, true)), 0⟩,
    ⟨(some 73), .bin .eql (.t 71) (.t 72), (some (70, true)), 0⟩,
    ⟨(some 74), .pick (.t 70) (.t 73) (.c (.p (.o (.bool false)))), none, 0⟩,
    ⟨(some 75), .mv (.t 74), none, 0⟩,
    ⟨(some 76), .mv (.t 13), (some (75, true)), 0⟩,
    ⟨(some 77), .mv (.t 16), (some (75, true)), 0⟩,
    ⟨(some 78), .bin .eql (.t 76) (.t 77), (some (75, true)), 0⟩,
    ⟨(some 79), .pick (.t 75) (.t 78) (.c (.p (.o (.bool false)))), none, 0⟩,
    ⟨(some 80), .mv (.t 79), none, 0⟩,
    ⟨(some 81), .call 27 [] 0, (some (80, true)), 0⟩,
    ⟨(some 82), .pick (.t 80) (.t 81) (.c (.p (.o (.bool false)))), none, 0⟩,
    ⟨(some 6), .mv (.t 82), none, 0⟩] 0 (some [(0, 2), (1, 2), (6, 7), (11, 12), (16, 17), (21, 22), (26, 27)])) .ret))))))),
  [.tmp 6], 83, [0, 1, 2, 3, 6, 7, 8, 9, 10, 11, 12, 13, 14, 15, 16]⟩
theorem ok_law10_IpTells : cFn Try.prog eqsT newsT vf_law10_IpTells.keep Try.f8 = some vf_law10_IpTells := by kernel_rfl
def vf_law10_Long : VFn := ⟨(.seq (.reg [
    ⟨(some 2), .box (.t 0), none, 0⟩,
    ⟨(some 4), .mv (.c (.p (.o (.bool false)))), none, 1⟩] 1 none) (.seq (.reg [
    ⟨(some 5), .fad 9 (.t 2), none, 0⟩,
    ⟨(some 6), .ld none (.t 5), none, 0⟩,
    ⟨(some 7), .len false (.t 6), none, 0⟩,
    ⟨(some 8), .bin .gtr (.t 7) (.c (.p (.o (.int .i64 256)))), none, 0⟩,
    ⟨(some 9), .mv (.t 8), none, 0⟩,
    ⟨(some 10), .mv (.t 1), (some (9, false)), 0⟩,
    ⟨(some 11), .len false (.t 10), (some (9, false)), 0⟩,
    ⟨(some 12), .bin .gtr (.t 11) (.c (.p (.o (.int .i64 131072)))), (some (9, false)), 0⟩,
    ⟨(some 13), .pick (.t 9) (.c (.p (.o (.bool true)))) (.t 12), none, 0⟩,
    ⟨(some 4), .mv (.t 13), none, 0⟩] 0 none) .ret)),
  [.tmp 4], 14, [0, 1, 2, 4]⟩
theorem ok_law10_Long : cFn Try.prog eqsT newsT vf_law10_Long.keep Try.f25 = some vf_law10_Long := by kernel_rfl
set_option maxHeartbeats 4000000 in
theorem iptells (tos id : Int) (hold more : Bool) (at_ ttl proto fr tt : Int) (o : ByteArray) (d s A : ByteArray) (ea : Int) (tos1 id1 : Int) (hold1 more1 : Bool) (at_1 ttl1 proto1 fr1 tt1 : Int) (o1 d1 : ByteArray) (de : Int) (mb : Bool) (ho : (o.size : Int) ≤ 256) (hd : (d.size : Int) ≤ 131072) (hs : (s.size : Int) ≤ 131072) (E : Det Try.prog 26 [.a (hdr tos id hold more at_ ttl proto fr tt o), .o (.str d)] [] (.t [.o (.str A), .o (.int .i64 ea)]) []) (E1 : Det Try.prog 28 [.a (hdr tos id hold more at_ ttl proto fr tt o), .o (.str d)] [] (.t [.o (.str A), .o (.int .i64 ea)]) []) (D : Det Try.prog 29 [.o (.str s)] [] (.t [.a (hdr tos1 id1 hold1 more1 at_1 ttl1 proto1 fr1 tt1 o1), .o (.str d1), .o (.int .i64 de)]) []) (D1 : Det Try.prog 30 [.o (.str s)] [] (.t [.a (hdr tos1 id1 hold1 more1 at_1 ttl1 proto1 fr1 tt1 o1), .o (.str d1), .o (.int .i64 de)]) []) (M : Det Try.prog 31 [.a (hdr tos id hold more at_ ttl proto fr tt o)] [] (vB mb) []) (M1 : Det Try.prog 32 [.a (hdr tos id hold more at_ ttl proto fr tt o)] [] (vB mb) []) : Can Try.prog 8 [.a (hdr tos id hold more at_ ttl proto fr tt o), .o (.str d), .o (.str s)] [] (fun v _ => v = vB true) := by
  refine can_of_W known mix Try.func8 (by kernel_rfl) ok_law10_IpTells (Nat.le_of_ble_eq_true rfl) ?_
  repeat' ((conv => whnf); first
    | ((with_reducible refine Look.mk ?_); refine ⟨_, rfl, ?_⟩)
    | ((with_reducible refine LookN.zeros ?_))
    | ((with_reducible refine LookN.bytes ?_ ?_); (simp; done))
    | ((with_reducible refine BytesW.bytes ?_))
    | ((with_reducible refine Look.byte ?_ ?_); omega)
    | ((with_reducible refine Look.setb ?_ ?_ ?_); exact bv8_bd _; omega)
    | ((with_reducible refine LookN.setb ?_ ?_ ?_); exact bv8_bd _; omega)
    | ((with_reducible refine LookN.mk ?_); refine ⟨_, rfl, ?_⟩)
    | ((with_reducible refine Need.mk ?_ ?_); first | ((with_reducible refine needB ?_); kernel_rfl) | exact rfl | trivial | omega | exact Nat.le_of_ble_eq_true rfl | (exact ⟨rfl, by omega⟩) | (intro h; first | rfl | cases h) | (simp only [lenS_text, lenS_setN, lenS_zeros]; omega) | (simp only [ByteArray.size_append, size_lit, List.size_toArray, List.length_cons, List.length_nil, Sp.ofB_size, ByteArray.size_extract]; omega))
    | ((with_reducible refine BytesW.mk ?_); refine ⟨_, rfl, ?_⟩)
    | (with_reducible refine CallW.det (E) ?_)
    | (with_reducible refine CallW.det (E1) ?_)
    | (with_reducible refine CallW.det (D) ?_)
    | (with_reducible refine CallW.det (D1) ?_)
    | (with_reducible refine CallW.det (M) ?_)
    | (with_reducible refine CallW.det (M1) ?_)
    | (with_reducible refine CallW.det (alive10_det) ?_)
    | (with_reducible refine CallW.can (can_of_W known mix Try.func25 (by kernel_rfl) ok_law10_Long (Nat.le_of_ble_eq_true rfl) ?_) (fun _ _ h => h))
    | ((with_reducible refine Test.tmodEqT ?_ ?_ ?_); omega; focus omega)
    | ((with_reducible refine Test.tmodEqF ?_ ?_ ?_); omega; focus omega)
    | ((with_reducible refine Test.tmodNeT ?_ ?_ ?_); omega; focus omega)
    | ((with_reducible refine Test.tmodNeF ?_ ?_ ?_); omega; focus omega)
    | ((with_reducible refine Test.tmodEq ?_ (fun h => ?_) (fun h => ?_)); omega)
    | ((with_reducible refine Test.tmodNe ?_ (fun h => ?_) (fun h => ?_)); omega)
    | ((with_reducible refine Test.notT ?_ ?_); focus assumption)
    | ((with_reducible refine Test.notF ?_ ?_); focus assumption)
    | (with_reducible refine Test.notIe (fun h => ?_) (fun h => ?_))
    | (with_reducible refine Test.notD (fun h => ?_) (fun h => ?_))
    | ((with_reducible refine Test.empty (fun h => ?_) (fun h => ?_)))
    | (with_reducible refine Test.tt ?_)
    | (with_reducible refine Test.ff ?_)
    | ((with_reducible refine Test.dt ?_ ?_); omega)
    | ((with_reducible refine Test.df ?_ ?_); omega)
    | (with_reducible refine Test.d (fun h => ?_) (fun h => ?_))
    | ((with_reducible refine Test.ieT ?_ ?_); omega)
    | ((with_reducible refine Test.ieF ?_ ?_); omega)
    | ((with_reducible refine Test.neT ?_ ?_); omega)
    | ((with_reducible refine Test.neF ?_ ?_); omega)
    | (with_reducible refine Test.ie (fun h => ?_) (fun h => ?_))
    | (with_reducible refine Test.ne (fun h => ?_) (fun h => ?_))
    | ((with_reducible refine Test.b ?_ ?_); (focus first | assumption | (simp [negB]; done) | exact rfl))
    | ((with_reducible refine Test.nb ?_ ?_); (focus first | assumption | (simp [negB]; done) | exact rfl))
    | (with_reducible refine Test.notS (fun h => ?_) (fun h => ?_))
    | (with_reducible refine Test.mk (fun h => ?_) (fun h => ?_))
    | ((with_reducible refine Arith.tdiv ?_ ?_); omega)
    | (with_reducible refine Arith.bv8 ?_)
    | (with_reducible refine Arith.bv16 ?_)
    | (with_reducible refine Arith.bv32 ?_)
    | (with_reducible refine Arith.bv64 ?_)
    | ((with_reducible refine Arith.i64 ?_ ?_); omega)
    | ((with_reducible refine Arith.u64 ?_ ?_); omega)
    | ((with_reducible refine Arith.u32 ?_ ?_); omega)
    | ((with_reducible refine Arith.u16 ?_ ?_); omega)
    | ((with_reducible refine Arith.u8 ?_ ?_); omega)
    | ((with_reducible refine Arith.i32 ?_ ?_); omega)
    | ((with_reducible refine Arith.i64 ?_ ?_); simp (discharger := omega) only [Int.tdiv_eq_ediv_of_nonneg, shr_u8_4, shl_u8_4, shr_u16_4, shl_u16_4, shr_u16_8, shl_u16_8, shr_u32_4, shl_u32_4, shr_u32_8, shl_u32_8, shr_u32_16, shl_u32_16, shr_u32_24, shl_u32_24, shr_u64_4, shl_u64_4, shr_u64_8, shl_u64_8, shr_u64_16, shl_u64_16, shr_u64_24, shl_u64_24, shr_u64_40, shl_u64_40, shr_i64_4, shl_i64_4, shr_i64_8, shl_i64_8, shr_i64_16, shl_i64_16, shr_i64_24, shl_i64_24, shr_i64_40, shl_i64_40]; omega)
    | ((with_reducible refine Arith.u64 ?_ ?_); simp (discharger := omega) only [Int.tdiv_eq_ediv_of_nonneg, shr_u8_4, shl_u8_4, shr_u16_4, shl_u16_4, shr_u16_8, shl_u16_8, shr_u32_4, shl_u32_4, shr_u32_8, shl_u32_8, shr_u32_16, shl_u32_16, shr_u32_24, shl_u32_24, shr_u64_4, shl_u64_4, shr_u64_8, shl_u64_8, shr_u64_16, shl_u64_16, shr_u64_24, shl_u64_24, shr_u64_40, shl_u64_40, shr_i64_4, shl_i64_4, shr_i64_8, shl_i64_8, shr_i64_16, shl_i64_16, shr_i64_24, shl_i64_24, shr_i64_40, shl_i64_40]; omega)
    | ((with_reducible refine Arith.u32 ?_ ?_); simp (discharger := omega) only [Int.tdiv_eq_ediv_of_nonneg, shr_u8_4, shl_u8_4, shr_u16_4, shl_u16_4, shr_u16_8, shl_u16_8, shr_u32_4, shl_u32_4, shr_u32_8, shl_u32_8, shr_u32_16, shl_u32_16, shr_u32_24, shl_u32_24, shr_u64_4, shl_u64_4, shr_u64_8, shl_u64_8, shr_u64_16, shl_u64_16, shr_u64_24, shl_u64_24, shr_u64_40, shl_u64_40, shr_i64_4, shl_i64_4, shr_i64_8, shl_i64_8, shr_i64_16, shl_i64_16, shr_i64_24, shl_i64_24, shr_i64_40, shl_i64_40]; omega)
    | ((with_reducible refine Arith.u16 ?_ ?_); simp (discharger := omega) only [Int.tdiv_eq_ediv_of_nonneg, shr_u8_4, shl_u8_4, shr_u16_4, shl_u16_4, shr_u16_8, shl_u16_8, shr_u32_4, shl_u32_4, shr_u32_8, shl_u32_8, shr_u32_16, shl_u32_16, shr_u32_24, shl_u32_24, shr_u64_4, shl_u64_4, shr_u64_8, shl_u64_8, shr_u64_16, shl_u64_16, shr_u64_24, shl_u64_24, shr_u64_40, shl_u64_40, shr_i64_4, shl_i64_4, shr_i64_8, shl_i64_8, shr_i64_16, shl_i64_16, shr_i64_24, shl_i64_24, shr_i64_40, shl_i64_40]; omega)
    | ((with_reducible refine Arith.u8 ?_ ?_); simp (discharger := omega) only [Int.tdiv_eq_ediv_of_nonneg, shr_u8_4, shl_u8_4, shr_u16_4, shl_u16_4, shr_u16_8, shl_u16_8, shr_u32_4, shl_u32_4, shr_u32_8, shl_u32_8, shr_u32_16, shl_u32_16, shr_u32_24, shl_u32_24, shr_u64_4, shl_u64_4, shr_u64_8, shl_u64_8, shr_u64_16, shl_u64_16, shr_u64_24, shl_u64_24, shr_u64_40, shl_u64_40, shr_i64_4, shl_i64_4, shr_i64_8, shl_i64_8, shr_i64_16, shl_i64_16, shr_i64_24, shl_i64_24, shr_i64_40, shl_i64_40]; omega)
    | (with_reducible refine Arith.mk ?_)
    | (with_reducible refine Ends.mk ?_))
  all_goals rfl
set_option maxHeartbeats 1000000 in
theorem iptells_far (tos id : Int) (hold more : Bool) (at_ ttl proto fr tt : Int) (o : ByteArray) (d s : ByteArray) (h : ¬ ((o.size : Int) ≤ 256 ∧ (d.size : Int) ≤ 131072 ∧ (s.size : Int) ≤ 131072)) : Can Try.prog 8 [.a (hdr tos id hold more at_ ttl proto fr tt o), .o (.str d), .o (.str s)] [] (fun v _ => v = vB true) := by
  by_cases c0 : (o.size : Int) ≤ 256
  · skip
    by_cases c1 : (d.size : Int) ≤ 131072
    · skip
      refine can_of_W known mix Try.func8 (by kernel_rfl) ok_law10_IpTells (Nat.le_of_ble_eq_true rfl) ?_
      repeat' ((conv => whnf); first
    | ((with_reducible refine Look.mk ?_); refine ⟨_, rfl, ?_⟩)
    | ((with_reducible refine LookN.zeros ?_))
    | ((with_reducible refine LookN.bytes ?_ ?_); (simp; done))
    | ((with_reducible refine BytesW.bytes ?_))
    | ((with_reducible refine Look.byte ?_ ?_); omega)
    | ((with_reducible refine Look.setb ?_ ?_ ?_); exact bv8_bd _; omega)
    | ((with_reducible refine LookN.setb ?_ ?_ ?_); exact bv8_bd _; omega)
    | ((with_reducible refine LookN.mk ?_); refine ⟨_, rfl, ?_⟩)
    | ((with_reducible refine Need.mk ?_ ?_); first | ((with_reducible refine needB ?_); kernel_rfl) | exact rfl | trivial | omega | exact Nat.le_of_ble_eq_true rfl | (exact ⟨rfl, by omega⟩) | (intro h; first | rfl | cases h) | (simp only [lenS_text, lenS_setN, lenS_zeros]; omega) | (simp only [ByteArray.size_append, size_lit, List.size_toArray, List.length_cons, List.length_nil, Sp.ofB_size, ByteArray.size_extract]; omega))
    | ((with_reducible refine BytesW.mk ?_); refine ⟨_, rfl, ?_⟩)
    | (with_reducible refine CallW.det (alive10_det) ?_)
    | (with_reducible refine CallW.can (can_of_W known mix Try.func25 (by kernel_rfl) ok_law10_Long (Nat.le_of_ble_eq_true rfl) ?_) (fun _ _ h => h))
    | ((with_reducible refine Test.tmodEqT ?_ ?_ ?_); omega; focus omega)
    | ((with_reducible refine Test.tmodEqF ?_ ?_ ?_); omega; focus omega)
    | ((with_reducible refine Test.tmodNeT ?_ ?_ ?_); omega; focus omega)
    | ((with_reducible refine Test.tmodNeF ?_ ?_ ?_); omega; focus omega)
    | ((with_reducible refine Test.tmodEq ?_ (fun h => ?_) (fun h => ?_)); omega)
    | ((with_reducible refine Test.tmodNe ?_ (fun h => ?_) (fun h => ?_)); omega)
    | ((with_reducible refine Test.notT ?_ ?_); focus assumption)
    | ((with_reducible refine Test.notF ?_ ?_); focus assumption)
    | (with_reducible refine Test.notIe (fun h => ?_) (fun h => ?_))
    | (with_reducible refine Test.notD (fun h => ?_) (fun h => ?_))
    | ((with_reducible refine Test.empty (fun h => ?_) (fun h => ?_)))
    | (with_reducible refine Test.tt ?_)
    | (with_reducible refine Test.ff ?_)
    | ((with_reducible refine Test.dt ?_ ?_); omega)
    | ((with_reducible refine Test.df ?_ ?_); omega)
    | (with_reducible refine Test.d (fun h => ?_) (fun h => ?_))
    | ((with_reducible refine Test.ieT ?_ ?_); omega)
    | ((with_reducible refine Test.ieF ?_ ?_); omega)
    | ((with_reducible refine Test.neT ?_ ?_); omega)
    | ((with_reducible refine Test.neF ?_ ?_); omega)
    | (with_reducible refine Test.ie (fun h => ?_) (fun h => ?_))
    | (with_reducible refine Test.ne (fun h => ?_) (fun h => ?_))
    | ((with_reducible refine Test.b ?_ ?_); (focus first | assumption | (simp [negB]; done) | exact rfl))
    | ((with_reducible refine Test.nb ?_ ?_); (focus first | assumption | (simp [negB]; done) | exact rfl))
    | (with_reducible refine Test.notS (fun h => ?_) (fun h => ?_))
    | (with_reducible refine Test.mk (fun h => ?_) (fun h => ?_))
    | ((with_reducible refine Arith.tdiv ?_ ?_); omega)
    | (with_reducible refine Arith.bv8 ?_)
    | (with_reducible refine Arith.bv16 ?_)
    | (with_reducible refine Arith.bv32 ?_)
    | (with_reducible refine Arith.bv64 ?_)
    | ((with_reducible refine Arith.i64 ?_ ?_); omega)
    | ((with_reducible refine Arith.u64 ?_ ?_); omega)
    | ((with_reducible refine Arith.u32 ?_ ?_); omega)
    | ((with_reducible refine Arith.u16 ?_ ?_); omega)
    | ((with_reducible refine Arith.u8 ?_ ?_); omega)
    | ((with_reducible refine Arith.i32 ?_ ?_); omega)
    | ((with_reducible refine Arith.i64 ?_ ?_); simp (discharger := omega) only [Int.tdiv_eq_ediv_of_nonneg, shr_u8_4, shl_u8_4, shr_u16_4, shl_u16_4, shr_u16_8, shl_u16_8, shr_u32_4, shl_u32_4, shr_u32_8, shl_u32_8, shr_u32_16, shl_u32_16, shr_u32_24, shl_u32_24, shr_u64_4, shl_u64_4, shr_u64_8, shl_u64_8, shr_u64_16, shl_u64_16, shr_u64_24, shl_u64_24, shr_u64_40, shl_u64_40, shr_i64_4, shl_i64_4, shr_i64_8, shl_i64_8, shr_i64_16, shl_i64_16, shr_i64_24, shl_i64_24, shr_i64_40, shl_i64_40]; omega)
    | ((with_reducible refine Arith.u64 ?_ ?_); simp (discharger := omega) only [Int.tdiv_eq_ediv_of_nonneg, shr_u8_4, shl_u8_4, shr_u16_4, shl_u16_4, shr_u16_8, shl_u16_8, shr_u32_4, shl_u32_4, shr_u32_8, shl_u32_8, shr_u32_16, shl_u32_16, shr_u32_24, shl_u32_24, shr_u64_4, shl_u64_4, shr_u64_8, shl_u64_8, shr_u64_16, shl_u64_16, shr_u64_24, shl_u64_24, shr_u64_40, shl_u64_40, shr_i64_4, shl_i64_4, shr_i64_8, shl_i64_8, shr_i64_16, shl_i64_16, shr_i64_24, shl_i64_24, shr_i64_40, shl_i64_40]; omega)
    | ((with_reducible refine Arith.u32 ?_ ?_); simp (discharger := omega) only [Int.tdiv_eq_ediv_of_nonneg, shr_u8_4, shl_u8_4, shr_u16_4, shl_u16_4, shr_u16_8, shl_u16_8, shr_u32_4, shl_u32_4, shr_u32_8, shl_u32_8, shr_u32_16, shl_u32_16, shr_u32_24, shl_u32_24, shr_u64_4, shl_u64_4, shr_u64_8, shl_u64_8, shr_u64_16, shl_u64_16, shr_u64_24, shl_u64_24, shr_u64_40, shl_u64_40, shr_i64_4, shl_i64_4, shr_i64_8, shl_i64_8, shr_i64_16, shl_i64_16, shr_i64_24, shl_i64_24, shr_i64_40, shl_i64_40]; omega)
    | ((with_reducible refine Arith.u16 ?_ ?_); simp (discharger := omega) only [Int.tdiv_eq_ediv_of_nonneg, shr_u8_4, shl_u8_4, shr_u16_4, shl_u16_4, shr_u16_8, shl_u16_8, shr_u32_4, shl_u32_4, shr_u32_8, shl_u32_8, shr_u32_16, shl_u32_16, shr_u32_24, shl_u32_24, shr_u64_4, shl_u64_4, shr_u64_8, shl_u64_8, shr_u64_16, shl_u64_16, shr_u64_24, shl_u64_24, shr_u64_40, shl_u64_40, shr_i64_4, shl_i64_4, shr_i64_8, shl_i64_8, shr_i64_16, shl_i64_16, shr_i64_24, shl_i64_24, shr_i64_40, shl_i64_40]; omega)
    | ((with_reducible refine Arith.u8 ?_ ?_); simp (discharger := omega) only [Int.tdiv_eq_ediv_of_nonneg, shr_u8_4, shl_u8_4, shr_u16_4, shl_u16_4, shr_u16_8, shl_u16_8, shr_u32_4, shl_u32_4, shr_u32_8, shl_u32_8, shr_u32_16, shl_u32_16, shr_u32_24, shl_u32_24, shr_u64_4, shl_u64_4, shr_u64_8, shl_u64_8, shr_u64_16, shl_u64_16, shr_u64_24, shl_u64_24, shr_u64_40, shl_u64_40, shr_i64_4, shl_i64_4, shr_i64_8, shl_i64_8, shr_i64_16, shl_i64_16, shr_i64_24, shl_i64_24, shr_i64_40, shl_i64_40]; omega)
    | (with_reducible refine Arith.mk ?_)
    | (with_reducible refine Ends.mk ?_))
      all_goals rfl
    · refine can_of_W known mix Try.func8 (by kernel_rfl) ok_law10_IpTells (Nat.le_of_ble_eq_true rfl) ?_
      repeat' ((conv => whnf); first
    | ((with_reducible refine Look.mk ?_); refine ⟨_, rfl, ?_⟩)
    | ((with_reducible refine LookN.zeros ?_))
    | ((with_reducible refine LookN.bytes ?_ ?_); (simp; done))
    | ((with_reducible refine BytesW.bytes ?_))
    | ((with_reducible refine Look.byte ?_ ?_); omega)
    | ((with_reducible refine Look.setb ?_ ?_ ?_); exact bv8_bd _; omega)
    | ((with_reducible refine LookN.setb ?_ ?_ ?_); exact bv8_bd _; omega)
    | ((with_reducible refine LookN.mk ?_); refine ⟨_, rfl, ?_⟩)
    | ((with_reducible refine Need.mk ?_ ?_); first | ((with_reducible refine needB ?_); kernel_rfl) | exact rfl | trivial | omega | exact Nat.le_of_ble_eq_true rfl | (exact ⟨rfl, by omega⟩) | (intro h; first | rfl | cases h) | (simp only [lenS_text, lenS_setN, lenS_zeros]; omega) | (simp only [ByteArray.size_append, size_lit, List.size_toArray, List.length_cons, List.length_nil, Sp.ofB_size, ByteArray.size_extract]; omega))
    | ((with_reducible refine BytesW.mk ?_); refine ⟨_, rfl, ?_⟩)
    | (with_reducible refine CallW.det (alive10_det) ?_)
    | (with_reducible refine CallW.can (can_of_W known mix Try.func25 (by kernel_rfl) ok_law10_Long (Nat.le_of_ble_eq_true rfl) ?_) (fun _ _ h => h))
    | ((with_reducible refine Test.tmodEqT ?_ ?_ ?_); omega; focus omega)
    | ((with_reducible refine Test.tmodEqF ?_ ?_ ?_); omega; focus omega)
    | ((with_reducible refine Test.tmodNeT ?_ ?_ ?_); omega; focus omega)
    | ((with_reducible refine Test.tmodNeF ?_ ?_ ?_); omega; focus omega)
    | ((with_reducible refine Test.tmodEq ?_ (fun h => ?_) (fun h => ?_)); omega)
    | ((with_reducible refine Test.tmodNe ?_ (fun h => ?_) (fun h => ?_)); omega)
    | ((with_reducible refine Test.notT ?_ ?_); focus assumption)
    | ((with_reducible refine Test.notF ?_ ?_); focus assumption)
    | (with_reducible refine Test.notIe (fun h => ?_) (fun h => ?_))
    | (with_reducible refine Test.notD (fun h => ?_) (fun h => ?_))
    | ((with_reducible refine Test.empty (fun h => ?_) (fun h => ?_)))
    | (with_reducible refine Test.tt ?_)
    | (with_reducible refine Test.ff ?_)
    | ((with_reducible refine Test.dt ?_ ?_); omega)
    | ((with_reducible refine Test.df ?_ ?_); omega)
    | (with_reducible refine Test.d (fun h => ?_) (fun h => ?_))
    | ((with_reducible refine Test.ieT ?_ ?_); omega)
    | ((with_reducible refine Test.ieF ?_ ?_); omega)
    | ((with_reducible refine Test.neT ?_ ?_); omega)
    | ((with_reducible refine Test.neF ?_ ?_); omega)
    | (with_reducible refine Test.ie (fun h => ?_) (fun h => ?_))
    | (with_reducible refine Test.ne (fun h => ?_) (fun h => ?_))
    | ((with_reducible refine Test.b ?_ ?_); (focus first | assumption | (simp [negB]; done) | exact rfl))
    | ((with_reducible refine Test.nb ?_ ?_); (focus first | assumption | (simp [negB]; done) | exact rfl))
    | (with_reducible refine Test.notS (fun h => ?_) (fun h => ?_))
    | (with_reducible refine Test.mk (fun h => ?_) (fun h => ?_))
    | ((with_reducible refine Arith.tdiv ?_ ?_); omega)
    | (with_reducible refine Arith.bv8 ?_)
    | (with_reducible refine Arith.bv16 ?_)
    | (with_reducible refine Arith.bv32 ?_)
    | (with_reducible refine Arith.bv64 ?_)
    | ((with_reducible refine Arith.i64 ?_ ?_); omega)
    | ((with_reducible refine Arith.u64 ?_ ?_); omega)
    | ((with_reducible refine Arith.u32 ?_ ?_); omega)
    | ((with_reducible refine Arith.u16 ?_ ?_); omega)
    | ((with_reducible refine Arith.u8 ?_ ?_); omega)
    | ((with_reducible refine Arith.i32 ?_ ?_); omega)
    | ((with_reducible refine Arith.i64 ?_ ?_); simp (discharger := omega) only [Int.tdiv_eq_ediv_of_nonneg, shr_u8_4, shl_u8_4, shr_u16_4, shl_u16_4, shr_u16_8, shl_u16_8, shr_u32_4, shl_u32_4, shr_u32_8, shl_u32_8, shr_u32_16, shl_u32_16, shr_u32_24, shl_u32_24, shr_u64_4, shl_u64_4, shr_u64_8, shl_u64_8, shr_u64_16, shl_u64_16, shr_u64_24, shl_u64_24, shr_u64_40, shl_u64_40, shr_i64_4, shl_i64_4, shr_i64_8, shl_i64_8, shr_i64_16, shl_i64_16, shr_i64_24, shl_i64_24, shr_i64_40, shl_i64_40]; omega)
    | ((with_reducible refine Arith.u64 ?_ ?_); simp (discharger := omega) only [Int.tdiv_eq_ediv_of_nonneg, shr_u8_4, shl_u8_4, shr_u16_4, shl_u16_4, shr_u16_8, shl_u16_8, shr_u32_4, shl_u32_4, shr_u32_8, shl_u32_8, shr_u32_16, shl_u32_16, shr_u32_24, shl_u32_24, shr_u64_4, shl_u64_4, shr_u64_8, shl_u64_8, shr_u64_16, shl_u64_16, shr_u64_24, shl_u64_24, shr_u64_40, shl_u64_40, shr_i64_4, shl_i64_4, shr_i64_8, shl_i64_8, shr_i64_16, shl_i64_16, shr_i64_24, shl_i64_24, shr_i64_40, shl_i64_40]; omega)
    | ((with_reducible refine Arith.u32 ?_ ?_); simp (discharger := omega) only [Int.tdiv_eq_ediv_of_nonneg, shr_u8_4, shl_u8_4, shr_u16_4, shl_u16_4, shr_u16_8, shl_u16_8, shr_u32_4, shl_u32_4, shr_u32_8, shl_u32_8, shr_u32_16, shl_u32_16, shr_u32_24, shl_u32_24, shr_u64_4, shl_u64_4, shr_u64_8, shl_u64_8, shr_u64_16, shl_u64_16, shr_u64_24, shl_u64_24, shr_u64_40, shl_u64_40, shr_i64_4, shl_i64_4, shr_i64_8, shl_i64_8, shr_i64_16, shl_i64_16, shr_i64_24, shl_i64_24, shr_i64_40, shl_i64_40]; omega)
    | ((with_reducible refine Arith.u16 ?_ ?_); simp (discharger := omega) only [Int.tdiv_eq_ediv_of_nonneg, shr_u8_4, shl_u8_4, shr_u16_4, shl_u16_4, shr_u16_8, shl_u16_8, shr_u32_4, shl_u32_4, shr_u32_8, shl_u32_8, shr_u32_16, shl_u32_16, shr_u32_24, shl_u32_24, shr_u64_4, shl_u64_4, shr_u64_8, shl_u64_8, shr_u64_16, shl_u64_16, shr_u64_24, shl_u64_24, shr_u64_40, shl_u64_40, shr_i64_4, shl_i64_4, shr_i64_8, shl_i64_8, shr_i64_16, shl_i64_16, shr_i64_24, shl_i64_24, shr_i64_40, shl_i64_40]; omega)
    | ((with_reducible refine Arith.u8 ?_ ?_); simp (discharger := omega) only [Int.tdiv_eq_ediv_of_nonneg, shr_u8_4, shl_u8_4, shr_u16_4, shl_u16_4, shr_u16_8, shl_u16_8, shr_u32_4, shl_u32_4, shr_u32_8, shl_u32_8, shr_u32_16, shl_u32_16, shr_u32_24, shl_u32_24, shr_u64_4, shl_u64_4, shr_u64_8, shl_u64_8, shr_u64_16, shl_u64_16, shr_u64_24, shl_u64_24, shr_u64_40, shl_u64_40, shr_i64_4, shl_i64_4, shr_i64_8, shl_i64_8, shr_i64_16, shl_i64_16, shr_i64_24, shl_i64_24, shr_i64_40, shl_i64_40]; omega)
    | (with_reducible refine Arith.mk ?_)
    | (with_reducible refine Ends.mk ?_))
      all_goals rfl
  · refine can_of_W known mix Try.func8 (by kernel_rfl) ok_law10_IpTells (Nat.le_of_ble_eq_true rfl) ?_
    repeat' ((conv => whnf); first
    | ((with_reducible refine Look.mk ?_); refine ⟨_, rfl, ?_⟩)
    | ((with_reducible refine LookN.zeros ?_))
    | ((with_reducible refine LookN.bytes ?_ ?_); (simp; done))
    | ((with_reducible refine BytesW.bytes ?_))
    | ((with_reducible refine Look.byte ?_ ?_); omega)
    | ((with_reducible refine Look.setb ?_ ?_ ?_); exact bv8_bd _; omega)
    | ((with_reducible refine LookN.setb ?_ ?_ ?_); exact bv8_bd _; omega)
    | ((with_reducible refine LookN.mk ?_); refine ⟨_, rfl, ?_⟩)
    | ((with_reducible refine Need.mk ?_ ?_); first | ((with_reducible refine needB ?_); kernel_rfl) | exact rfl | trivial | omega | exact Nat.le_of_ble_eq_true rfl | (exact ⟨rfl, by omega⟩) | (intro h; first | rfl | cases h) | (simp only [lenS_text, lenS_setN, lenS_zeros]; omega) | (simp only [ByteArray.size_append, size_lit, List.size_toArray, List.length_cons, List.length_nil, Sp.ofB_size, ByteArray.size_extract]; omega))
    | ((with_reducible refine BytesW.mk ?_); refine ⟨_, rfl, ?_⟩)
    | (with_reducible refine CallW.det (alive10_det) ?_)
    | (with_reducible refine CallW.can (can_of_W known mix Try.func25 (by kernel_rfl) ok_law10_Long (Nat.le_of_ble_eq_true rfl) ?_) (fun _ _ h => h))
    | ((with_reducible refine Test.tmodEqT ?_ ?_ ?_); omega; focus omega)
    | ((with_reducible refine Test.tmodEqF ?_ ?_ ?_); omega; focus omega)
    | ((with_reducible refine Test.tmodNeT ?_ ?_ ?_); omega; focus omega)
    | ((with_reducible refine Test.tmodNeF ?_ ?_ ?_); omega; focus omega)
    | ((with_reducible refine Test.tmodEq ?_ (fun h => ?_) (fun h => ?_)); omega)
    | ((with_reducible refine Test.tmodNe ?_ (fun h => ?_) (fun h => ?_)); omega)
    | ((with_reducible refine Test.notT ?_ ?_); focus assumption)
    | ((with_reducible refine Test.notF ?_ ?_); focus assumption)
    | (with_reducible refine Test.notIe (fun h => ?_) (fun h => ?_))
    | (with_reducible refine Test.notD (fun h => ?_) (fun h => ?_))
    | ((with_reducible refine Test.empty (fun h => ?_) (fun h => ?_)))
    | (with_reducible refine Test.tt ?_)
    | (with_reducible refine Test.ff ?_)
    | ((with_reducible refine Test.dt ?_ ?_); omega)
    | ((with_reducible refine Test.df ?_ ?_); omega)
    | (with_reducible refine Test.d (fun h => ?_) (fun h => ?_))
    | ((with_reducible refine Test.ieT ?_ ?_); omega)
    | ((with_reducible refine Test.ieF ?_ ?_); omega)
    | ((with_reducible refine Test.neT ?_ ?_); omega)
    | ((with_reducible refine Test.neF ?_ ?_); omega)
    | (with_reducible refine Test.ie (fun h => ?_) (fun h => ?_))
    | (with_reducible refine Test.ne (fun h => ?_) (fun h => ?_))
    | ((with_reducible refine Test.b ?_ ?_); (focus first | assumption | (simp [negB]; done) | exact rfl))
    | ((with_reducible refine Test.nb ?_ ?_); (focus first | assumption | (simp [negB]; done) | exact rfl))
    | (with_reducible refine Test.notS (fun h => ?_) (fun h => ?_))
    | (with_reducible refine Test.mk (fun h => ?_) (fun h => ?_))
    | ((with_reducible refine Arith.tdiv ?_ ?_); omega)
    | (with_reducible refine Arith.bv8 ?_)
    | (with_reducible refine Arith.bv16 ?_)
    | (with_reducible refine Arith.bv32 ?_)
    | (with_reducible refine Arith.bv64 ?_)
    | ((with_reducible refine Arith.i64 ?_ ?_); omega)
    | ((with_reducible refine Arith.u64 ?_ ?_); omega)
    | ((with_reducible refine Arith.u32 ?_ ?_); omega)
    | ((with_reducible refine Arith.u16 ?_ ?_); omega)
    | ((with_reducible refine Arith.u8 ?_ ?_); omega)
    | ((with_reducible refine Arith.i32 ?_ ?_); omega)
    | ((with_reducible refine Arith.i64 ?_ ?_); simp (discharger := omega) only [Int.tdiv_eq_ediv_of_nonneg, shr_u8_4, shl_u8_4, shr_u16_4, shl_u16_4, shr_u16_8, shl_u16_8, shr_u32_4, shl_u32_4, shr_u32_8, shl_u32_8, shr_u32_16, shl_u32_16, shr_u32_24, shl_u32_24, shr_u64_4, shl_u64_4, shr_u64_8, shl_u64_8, shr_u64_16, shl_u64_16, shr_u64_24, shl_u64_24, shr_u64_40, shl_u64_40, shr_i64_4, shl_i64_4, shr_i64_8, shl_i64_8, shr_i64_16, shl_i64_16, shr_i64_24, shl_i64_24, shr_i64_40, shl_i64_40]; omega)
    | ((with_reducible refine Arith.u64 ?_ ?_); simp (discharger := omega) only [Int.tdiv_eq_ediv_of_nonneg, shr_u8_4, shl_u8_4, shr_u16_4, shl_u16_4, shr_u16_8, shl_u16_8, shr_u32_4, shl_u32_4, shr_u32_8, shl_u32_8, shr_u32_16, shl_u32_16, shr_u32_24, shl_u32_24, shr_u64_4, shl_u64_4, shr_u64_8, shl_u64_8, shr_u64_16, shl_u64_16, shr_u64_24, shl_u64_24, shr_u64_40, shl_u64_40, shr_i64_4, shl_i64_4, shr_i64_8, shl_i64_8, shr_i64_16, shl_i64_16, shr_i64_24, shl_i64_24, shr_i64_40, shl_i64_40]; omega)
    | ((with_reducible refine Arith.u32 ?_ ?_); simp (discharger := omega) only [Int.tdiv_eq_ediv_of_nonneg, shr_u8_4, shl_u8_4, shr_u16_4, shl_u16_4, shr_u16_8, shl_u16_8, shr_u32_4, shl_u32_4, shr_u32_8, shl_u32_8, shr_u32_16, shl_u32_16, shr_u32_24, shl_u32_24, shr_u64_4, shl_u64_4, shr_u64_8, shl_u64_8, shr_u64_16, shl_u64_16, shr_u64_24, shl_u64_24, shr_u64_40, shl_u64_40, shr_i64_4, shl_i64_4, shr_i64_8, shl_i64_8, shr_i64_16, shl_i64_16, shr_i64_24, shl_i64_24, shr_i64_40, shl_i64_40]; omega)
    | ((with_reducible refine Arith.u16 ?_ ?_); simp (discharger := omega) only [Int.tdiv_eq_ediv_of_nonneg, shr_u8_4, shl_u8_4, shr_u16_4, shl_u16_4, shr_u16_8, shl_u16_8, shr_u32_4, shl_u32_4, shr_u32_8, shl_u32_8, shr_u32_16, shl_u32_16, shr_u32_24, shl_u32_24, shr_u64_4, shl_u64_4, shr_u64_8, shl_u64_8, shr_u64_16, shl_u64_16, shr_u64_24, shl_u64_24, shr_u64_40, shl_u64_40, shr_i64_4, shl_i64_4, shr_i64_8, shl_i64_8, shr_i64_16, shl_i64_16, shr_i64_24, shl_i64_24, shr_i64_40, shl_i64_40]; omega)
    | ((with_reducible refine Arith.u8 ?_ ?_); simp (discharger := omega) only [Int.tdiv_eq_ediv_of_nonneg, shr_u8_4, shl_u8_4, shr_u16_4, shl_u16_4, shr_u16_8, shl_u16_8, shr_u32_4, shl_u32_4, shr_u32_8, shl_u32_8, shr_u32_16, shl_u32_16, shr_u32_24, shl_u32_24, shr_u64_4, shl_u64_4, shr_u64_8, shl_u64_8, shr_u64_16, shl_u64_16, shr_u64_24, shl_u64_24, shr_u64_40, shl_u64_40, shr_i64_4, shl_i64_4, shr_i64_8, shl_i64_8, shr_i64_16, shl_i64_16, shr_i64_24, shl_i64_24, shr_i64_40, shl_i64_40]; omega)
    | (with_reducible refine Arith.mk ?_)
    | (with_reducible refine Ends.mk ?_))
    all_goals rfl
theorem dec10_form' (s : ByteArray) : ∃ tos id hold more at_ ttl proto fr tt o, dec10 s = hdr tos id hold more at_ ttl proto fr tt o := by
  unfold dec10
  split <;> exact ⟨_, _, _, _, _, _, _, _, _, _, rfl⟩
theorem iptells_row (tos id : Int) (hold more : Bool) (at_ ttl proto fr tt : Int) (o : ByteArray) (d s : ByteArray) (w_ : World) (htos : 0 ≤ tos ∧ tos ≤ 255) (hid : 0 ≤ id ∧ id ≤ 65535) (hat : -9223372036854775808 ≤ at_ ∧ at_ ≤ 9223372036854775807) (httl : 0 ≤ ttl ∧ ttl ≤ 255) (hproto : 0 ≤ proto ∧ proto ≤ 255) (hfr : 0 ≤ fr ∧ fr ≤ 4294967295) (hto : 0 ≤ tt ∧ tt ≤ 4294967295) (ho_ : o.size ≤ maxLen) (hd_ : d.size ≤ maxLen) (hs_ : s.size ≤ maxLen) :
    Calls Try.prog 8 #[.agg #[.int .u8 tos, .int .u16 id, .bool hold, .bool more, .int .i64 at_, .int .u8 ttl, .int .u8 proto, .int .u32 fr, .int .u32 tt, .string o], .string d, .string s] w_ fun e w' => e = .returned (.bool true) ∧ Below w_.heap.size w_ w' := by
  by_cases h : (o.size : Int) ≤ 256 ∧ (d.size : Int) ≤ 131072 ∧ (s.size : Int) ≤ 131072
  · obtain ⟨tos1, id1, hold1, more1, at_1, ttl1, proto1, fr1, tt1, o1, h1⟩ := dec10_form' s
    have D := dec_det s (by omega)
    have D1 := rdec_det s (by omega)
    rw [h1] at D D1
    exact calls_of_can (iptells tos id hold more at_ ttl proto fr tt o d s _ _ tos1 id1 hold1 more1 at_1 ttl1 proto1 fr1 tt1 o1 _ _ _ h.1 h.2.1 h.2.2 (enc_det tos id hold more at_ ttl proto fr tt o d htos hid hat httl hproto hfr hto (by omega) (by omega)) (renc_det tos id hold more at_ ttl proto fr tt o d htos hid hat httl hproto hfr hto (by omega) (by omega)) D D1 (may_det tos id hold more at_ ttl proto fr tt o (by omega)) (rmay_det tos id hold more at_ ttl proto fr tt o (by omega))) rfl rfl w_
  · exact calls_of_can (iptells_far tos id hold more at_ ttl proto fr tt o d s h) rfl rfl w_
end G2
end Go.Proofs.Ytnmeeafnobfobaa.VM
