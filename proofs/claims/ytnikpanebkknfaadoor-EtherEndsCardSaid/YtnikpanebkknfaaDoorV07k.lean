/- law 07 by the evaluator: EtherTexts, EtherBack, EtherEnds. -/
import Derived.Test.YtnikpanebkknfaaDoorV07j
namespace Go.Proofs.YtnikpanebkknfaaDoor.VM
namespace G4
open Go.RowKit
set_option linter.unusedVariables false
set_option linter.unusedSimpArgs false
set_option maxRecDepth 100000
variable {G : Ground}
def vf_law07_EtherTexts : VFn := ⟨(.seq (.reg [
    ⟨(some 7), .box (.t 3), none, 0⟩,
    ⟨(some 8), .mv (.c (.p (.o (.bool false)))), none, 1⟩] 1 none) (.seq (.seq (.reg [
    ⟨(some 14), .ld (some 4) (.t 7), none, 0⟩,
    ⟨(some 15), .call 33 [(.t 14)] 0, none, 0⟩,
    ⟨(some 16), .mv (.t 15), none, 0⟩,
    ⟨(some 17), .mv (.t 2), (some (16, false)), 0⟩,
    ⟨(some 18), .len false (.t 17), (some (16, false)), 0⟩,
    ⟨(some 19), .bin .gtr (.t 18) (.c (.p (.o (.int .i64 256)))), (some (16, false)), 0⟩,
    ⟨(some 20), .pick (.t 16) (.c (.p (.o (.bool true)))) (.t 19), none, 0⟩] 0 none) (.cond (.t 20) (.seq (.reg [
    ⟨(some 21), .call 15 [] 0, none, 0⟩,
    ⟨(some 8), .mv (.t 21), none, 0⟩] 0 none) .ret) .skip)) (.seq (.reg [
    ⟨(some 22), .mv (.t 0), none, 0⟩,
    ⟨(some 23), .bin .and (.t 22) (.c (.p (.o (.int .u64 281474976710655)))), none, 0⟩,
    ⟨(some 24), .mv (.t 1), none, 0⟩,
    ⟨(some 25), .bin .and (.t 24) (.c (.p (.o (.int .u64 281474976710655)))), none, 0⟩,
    ⟨(some 0), .mv (.t 23), none, 0⟩,
    ⟨(some 1), .mv (.t 25), none, 0⟩] 0 none) (.seq (.reg [
    ⟨(some 27), .mv (.t 0), none, 0⟩,
    ⟨(some 28), .call 38 [(.t 27)] 0, none, 0⟩,
    ⟨(some 29), .call 36 [(.t 28)] 0, none, 0⟩,
    ⟨(some 26), .mv (.t 29), none, 0⟩,
    ⟨(some 30), .ext 0 (.t 26), none, 0⟩,
    ⟨(some 31), .ext 1 (.t 26), none, 0⟩,
    ⟨(some 9), .mv (.t 30), none, 0⟩,
    ⟨(some 10), .mv (.t 31), none, 0⟩] 0 none) (.seq (.reg [
    ⟨(some 33), .mv (.t 2), none, 0⟩,
    ⟨(some 34), .call 36 [(.t 33)] 0, none, 0⟩,
    ⟨(some 32), .mv (.t 34), none, 0⟩,
    ⟨(some 35), .ext 0 (.t 32), none, 0⟩,
    ⟨(some 36), .ext 1 (.t 32), none, 0⟩,
    ⟨(some 11), .mv (.t 35), none, 0⟩,
    ⟨(some 12), .mv (.t 36), none, 0⟩] 0 none) (.seq (.seq (.reg [
    ⟨(some 37), .mv (.t 9), none, 0⟩,
    ⟨(some 38), .mv (.t 0), none, 0⟩,
    ⟨(some 39), .bin .neq (.t 37) (.t 38), none, 0⟩,
    ⟨(some 40), .mv (.t 39), none, 0⟩,
    ⟨(some 41), .mv (.t 10), (some (40, false)), 0⟩,
    ⟨(some 42), .bin .neq (.t 41) (.c (.p (.o (.int .i64 0)))), (some (40, false)), 0⟩,
    ⟨(some 43), .pick (.t 40) (.c (.p (.o (.bool true)))) (.t 42), none, 0⟩,
    ⟨(some 44), .mv (.t 43), none, 0⟩,
    ⟨(some 45), .mv (.t 0), (some (44, false)), 0⟩,
    ⟨(some 46), .call 38 [(.t 45)] 0, (some (44, false)), 0⟩,
    ⟨(some 47), .mv (.t 1), (some (44, false)), 0⟩,
    ⟨(some 48), .call 38 [(.t 47)] 0, (some (44, false)), 0⟩,
    ⟨(some 49), .bin .eql (.t 46) (.t 48), (some (44, false)), 0⟩,
    ⟨(some 50), .mv (.t 0), (some (44, false)), 0⟩,
    ⟨(some 51), .mv (.t 1), (some (44, false)), 0⟩,
    ⟨(some 52), .bin .eql (.t 50) (.t 51), (some (44, false)), 0⟩,
    ⟨(some 53), .eq .bool true (.t 49) (.t 52), (some (44, false)), 0⟩,
    ⟨(some 54), .pick (.t 44) (.c (.p (.o (.bool true)))) (.t 53), none, 0⟩,
    ⟨(some 55), .mv (.t 54), none, 0⟩,
    ⟨(some 56), .mv (.t 0), (some (55, false)), 0⟩,
    ⟨(some 57), .call 38 [(.t 56)] 0, (some (55, false)), 0⟩,
    ⟨(some 58), .len false (.t 57), (some (55, false)), 0⟩,
    ⟨(some 59), .bin .neq (.t 58) (.c (.p (.o (.int .i64 17)))), (some (55, false)), 0⟩,
    ⟨(some 60), .pick (.t 55) (.c (.p (.o (.bool true)))) (.t 59), none, 0⟩,
    ⟨(some 61), .mv (.t 60), none, 0⟩,
    ⟨(some 62), .mv (.t 12), (some (61, false)), 0⟩,
    ⟨(some 63), .bin .eql (.t 62) (.c (.p (.o (.int .i64 0)))), (some (61, false)), 0⟩,
    ⟨(some 64), .mv (.t 63), (some (61, false)), 0⟩,
    ⟨(some 65), .mv (.t 11), (some (64, true)), 0⟩,
    ⟨(some 66), .call 38 [(.t 65)] 0, (some (64, true)), 0⟩,
    ⟨(some 67), .mv (.t 2), (some (64, true)), 0⟩,
    ⟨(some 68), .bin .neq (.t 66) (.t 67), (some (64, true)), 0⟩,
    ⟨(some 69), .pick (.t 64) (.t 68) (.c (.p (.o (.bool false)))), (some (61, false)), 0⟩,
    ⟨(some 70), .pick (.t 61) (.c (.p (.o (.bool true)))) (.t 69), none, 0⟩] 0 none) (.cond (.t 70) (.seq (.reg [
    ⟨(some 8), .mv (.c (.p (.o (.bool false)))), none, 0⟩] 0 none) .ret) .skip)) (.seq (.reg [
    ⟨(some 71), .mv (.t 0), none, 0⟩,
    ⟨(some 72), .fad 0 (.t 7), none, 0⟩,
    ⟨none, .st 1 (.t 72) (.t 71), none, 0⟩] 0 none) (.seq (.reg [
    ⟨(some 73), .ld (some 4) (.t 7), none, 0⟩,
    ⟨(some 74), .mv (.t 1), none, 0⟩,
    ⟨(some 75), .call 40 [(.t 73), (.t 74)] 0, none, 0⟩,
    ⟨(some 13), .mv (.t 75), none, 0⟩] 0 none) (.seq (.reg [
    ⟨(some 76), .fad 0 (.t 7), none, 0⟩,
    ⟨none, .st 1 (.t 76) (.c (.p (.o (.int .u64 281474976710655)))), none, 0⟩] 0 none) (.seq (.reg [
    ⟨(some 77), .mv (.t 13), none, 0⟩,
    ⟨(some 78), .mv (.t 0), none, 0⟩,
    ⟨(some 79), .mv (.t 1), none, 0⟩,
    ⟨(some 80), .bin .eql (.t 78) (.t 79), none, 0⟩,
    ⟨(some 81), .mv (.t 80), none, 0⟩,
    ⟨(some 82), .mv (.t 0), (some (81, false)), 0⟩,
    ⟨(some 83), .bin .eql (.t 82) (.c (.p (.o (.int .u64 281474976710655)))), (some (81, false)), 0⟩,
    ⟨(some 84), .pick (.t 81) (.c (.p (.o (.bool true)))) (.t 83), none, 0⟩,
    ⟨(some 85), .eq .bool false (.t 77) (.t 84), none, 0⟩,
    ⟨(some 86), .mv (.t 85), none, 0⟩,
    ⟨(some 87), .ld (some 4) (.t 7), (some (86, true)), 0⟩,
    ⟨(some 88), .mv (.t 1), (some (86, true)), 0⟩,
    ⟨(some 89), .call 40 [(.t 87), (.t 88)] 0, (some (86, true)), 0⟩,
    ⟨(some 90), .pick (.t 86) (.t 89) (.c (.p (.o (.bool false)))), none, 0⟩,
    ⟨(some 91), .mv (.t 90), none, 0⟩,
    ⟨(some 92), .call 15 [] 0, (some (91, true)), 0⟩,
    ⟨(some 93), .pick (.t 91) (.t 92) (.c (.p (.o (.bool false)))), none, 0⟩,
    ⟨(some 8), .mv (.t 93), none, 0⟩] 0 none) .ret)))))))))),
  [.tmp 8], 94, [0, 1, 2, 3, 7, 8, 9, 10, 11, 12, 13]⟩
theorem ok_law07_EtherTexts : cFn Tryd.prog eqsT newsT vf_law07_EtherTexts.keep Tryd.f12 = some vf_law07_EtherTexts := by kernel_rfl
def vf_law07_EtherBack : VFn := ⟨(.seq (.reg [
    ⟨(some 2), .box (.t 0), none, 0⟩,
    ⟨(some 4), .mv (.c (.p (.o (.bool false)))), none, 1⟩] 1 none) (.seq (.seq (.reg [
    ⟨(some 13), .ld (some 4) (.t 2), none, 0⟩,
    ⟨(some 14), .call 33 [(.t 13)] 0, none, 0⟩,
    ⟨(some 15), .mv (.t 14), none, 0⟩,
    ⟨(some 16), .mv (.t 1), (some (15, false)), 0⟩,
    ⟨(some 17), .len false (.t 16), (some (15, false)), 0⟩,
    ⟨(some 18), .bin .gtr (.t 17) (.c (.p (.o (.int .i64 131072)))), (some (15, false)), 0⟩,
    ⟨(some 19), .pick (.t 15) (.c (.p (.o (.bool true)))) (.t 18), none, 0⟩] 0 none) (.cond (.t 19) (.seq (.reg [
    ⟨(some 20), .call 15 [] 0, none, 0⟩,
    ⟨(some 4), .mv (.t 20), none, 0⟩] 0 none) .ret) .skip)) (.seq (.reg [
    ⟨(some 22), .ld (some 4) (.t 2), none, 0⟩,
    ⟨(some 23), .call 13 [(.t 22)] 0, none, 0⟩,
    ⟨(some 21), .mv (.t 23), none, 0⟩,
    ⟨(some 24), .ext 0 (.t 21), none, 0⟩,
    ⟨(some 25), .ext 1 (.t 21), none, 0⟩,
    ⟨(some 5), .mv (.t 24), none, 0⟩,
    ⟨(some 6), .mv (.t 25), none, 0⟩] 0 none) (.seq (.seq (.reg [
    ⟨(some 26), .mv (.t 6), none, 0⟩,
    ⟨(some 27), .bin .eql (.t 26) (.c (.p (.o (.int .i64 0)))), none, 0⟩] 0 none) (.cond (.t 27) (.seq (.reg [
    ⟨(some 29), .mv (.t 5), none, 0⟩,
    ⟨(some 30), .call 14 [(.t 29)] 0, none, 0⟩,
    ⟨(some 28), .mv (.t 30), none, 0⟩,
    ⟨(some 31), .ext 0 (.t 28), none, 0⟩,
    ⟨(some 32), .ext 1 (.t 28), none, 0⟩,
    ⟨(some 7), .new [.int .u64 0, .int .u64 0, .int .u16 0, .str ⟨#[]⟩], none, 0⟩,
    ⟨none, .st 4 (.t 7) (.t 31), none, 1⟩,
    ⟨(some 8), .mv (.t 32), none, 1⟩] 1 none) (.seq (.seq (.reg [
    ⟨(some 33), .mv (.t 8), none, 0⟩,
    ⟨(some 34), .bin .neq (.t 33) (.c (.p (.o (.int .i64 0)))), none, 0⟩,
    ⟨(some 35), .mv (.t 34), none, 0⟩,
    ⟨(some 36), .mv (.t 5), (some (35, false)), 0⟩,
    ⟨(some 37), .len false (.t 36), (some (35, false)), 0⟩,
    ⟨(some 38), .bin .lss (.t 37) (.c (.p (.o (.int .i64 60)))), (some (35, false)), 0⟩,
    ⟨(some 39), .pick (.t 35) (.c (.p (.o (.bool true)))) (.t 38), none, 0⟩,
    ⟨(some 40), .mv (.t 39), none, 0⟩,
    ⟨(some 41), .fad 0 (.t 7), (some (40, false)), 0⟩,
    ⟨(some 42), .ld none (.t 41), (some (40, false)), 0⟩,
    ⟨(some 43), .fad 0 (.t 2), (some (40, false)), 0⟩,
    ⟨(some 44), .ld none (.t 43), (some (40, false)), 0⟩,
    ⟨(some 45), .bin .neq (.t 42) (.t 44), (some (40, false)), 0⟩,
    ⟨(some 46), .pick (.t 40) (.c (.p (.o (.bool true)))) (.t 45), none, 0⟩,
    ⟨(some 47), .mv (.t 46), none, 0⟩,
    ⟨(some 48), .fad 1 (.t 7), (some (47, false)), 0⟩,
    ⟨(some 49), .ld none (.t 48), (some (47, false)), 0⟩,
    ⟨(some 50), .fad 1 (.t 2), (some (47, false)), 0⟩,
    ⟨(some 51), .ld none (.t 50), (some (47, false)), 0⟩,
    ⟨(some 52), .bin .neq (.t 49) (.t 51), (some (47, false)), 0⟩,
    ⟨(some 53), .pick (.t 47) (.c (.p (.o (.bool true)))) (.t 52), none, 0⟩,
    ⟨(some 54), .mv (.t 53), none, 0⟩,
    ⟨(some 55), .fad 2 (.t 7), (some (54, false)), 0⟩,
    ⟨(some 56), .ld none (.t 55), (some (54, false)), 0⟩,
    ⟨(some 57), .fad 2 (.t 2), (some (54, false)), 0⟩,
    ⟨(some 58), .ld none (.t 57), (some (54, false)), 0⟩,
    ⟨(some 59), .bin .neq (.t 56) (.t 58), (some (54, false)), 0⟩,
    ⟨(some 60), .pick (.t 54) (.c (.p (.o (.bool true)))) (.t 59), none, 0⟩,
    ⟨(some 61), .mv (.t 60), none, 0⟩,
    ⟨(some 62), .fad 3 (.t 7), (some (61, false)), 0⟩,
    ⟨(some 63), .ld none (.t 62), (some (61, false)), 0⟩,
    ⟨(some 64), .len false (.t 63), (some (61, false)), 0⟩,
    ⟨(some 65), .fad 3 (.t 2), (some (61, false)), 0⟩,
    ⟨(some 66), .ld none (.t 65), (some (61, false)), 0⟩,
    ⟨(some 67), .len false (.t 66), (some (61, false)), 0⟩,
    ⟨(some 68), .bin .lss (.t 64) (.t 67), (some (61, false)), 0⟩,
    ⟨(some 69), .pick (.t 61) (.c (.p (.o (.bool true)))) (.t 68), none, 0⟩,
    ⟨(some 70), .mv (.t 69), none, 0⟩,
    ⟨(some 71), .fad 3 (.t 7), (some (70, false)), 0⟩,
    ⟨(some 72), .ld none (.t 71), (some (70, false)), 0⟩,
    ⟨(some 73), .fad 3 (.t 2), (some (70, false)), 0⟩,
    ⟨(some 74), .ld none (.t 73), (some (70, false)), 0⟩,
    ⟨(some 75), .len false (.t 74), (some (70, false)), 0⟩,
    ⟨(some 76), .sls (.t 72) none (some (.t 75)), (some (70, false)), 0⟩,
    ⟨(some 77), .fad 3 (.t 2), (some (70, false)), 0⟩,
    ⟨(some 78), .ld none (.t 77), (some (70, false)), 0⟩,
    ⟨(some 79), .bin .neq (.t 76) (.t 78), (some (70, false)), 0⟩,
    ⟨(some 80), .pick (.t 70) (.c (.p (.o (.bool true)))) (.t 79), none, 0⟩] 0 (some [(8, 10), (9, 10), (8, 11), (9, 11), (15, 17), (16, 17), (15, 18), (16, 18), (22, 24), (23, 24), (22, 25), (23, 25), (29, 32), (30, 32), (31, 32), (29, 33), (30, 33), (31, 33), (29, 34), (30, 34), (31, 34), (38, 40), (39, 40), (38, 41), (39, 41), (38, 42), (39, 42), (38, 44), (39, 44), (40, 44), (41, 44), (42, 44), (43, 44), (38, 45), (39, 45), (40, 45), (41, 45), (42, 45), (43, 45)])) (.cond (.t 80) (.seq (.reg [
    ⟨(some 4), .mv (.c (.p (.o (.bool false)))), none, 0⟩] 0 none) .ret) .skip)) (.seq (.reg [
    ⟨(some 81), .fad 3 (.t 7), none, 0⟩,
    ⟨(some 82), .ld none (.t 81), none, 0⟩,
    ⟨(some 83), .fad 3 (.t 2), none, 0⟩,
    ⟨(some 84), .ld none (.t 83), none, 0⟩,
    ⟨(some 85), .len false (.t 84), none, 0⟩,
    ⟨(some 86), .sls (.t 82) (some (.t 85)) none, none, 0⟩,
    ⟨(some 9), .mv (.t 86), none, 0⟩] 0 none) (.seq (.reg [
    ⟨(some 87), .mv (.t 9), none, 0⟩,
    ⟨(some 88), .mv (.t 9), none, 0⟩,
    ⟨(some 89), .len false (.t 88), none, 0⟩,
    ⟨(some 90), .mks 1 1 [.int .u8 0] (.t 89) (.t 89), none, 0⟩,
    ⟨(some 91), .b2s (.t 90), none, 1⟩,
    ⟨(some 92), .bin .neq (.t 87) (.t 91), none, 1⟩,
    ⟨(some 93), .mv (.t 92), none, 1⟩,
    ⟨(some 94), .mv (.t 9), (some (93, false)), 1⟩,
    ⟨(some 95), .len false (.t 94), (some (93, false)), 1⟩,
    ⟨(some 96), .bin .gtr (.t 95) (.c (.p (.o (.int .i64 0)))), (some (93, false)), 1⟩,
    ⟨(some 97), .mv (.t 96), (some (93, false)), 1⟩,
    ⟨(some 98), .mv (.t 5), (some (97, true)), 1⟩,
    ⟨(some 99), .len false (.t 98), (some (97, true)), 1⟩,
    ⟨(some 100), .bin .neq (.t 99) (.c (.p (.o (.int .i64 60)))), (some (97, true)), 1⟩,
    ⟨(some 101), .pick (.t 97) (.t 100) (.c (.p (.o (.bool false)))), (some (93, false)), 1⟩,
    ⟨(some 102), .pick (.t 93) (.c (.p (.o (.bool true)))) (.t 101), none, 1⟩] 1 none) (.cond (.t 102) (.seq (.reg [
    ⟨(some 4), .mv (.c (.p (.o (.bool false)))), none, 0⟩] 0 none) .ret) .skip))))) .skip)) (.seq (.reg [
    ⟨(some 104), .mv (.t 1), none, 0⟩,
    ⟨(some 105), .call 14 [(.t 104)] 0, none, 0⟩,
    ⟨(some 103), .mv (.t 105), none, 0⟩,
    ⟨(some 106), .ext 0 (.t 103), none, 0⟩,
    ⟨(some 107), .ext 1 (.t 103), none, 0⟩,
    ⟨(some 10), .new [.int .u64 0, .int .u64 0, .int .u16 0, .str ⟨#[]⟩], none, 0⟩,
    ⟨none, .st 4 (.t 10) (.t 106), none, 1⟩,
    ⟨(some 11), .mv (.t 107), none, 1⟩] 1 none) (.seq (.seq (.reg [
    ⟨(some 108), .mv (.t 11), none, 0⟩,
    ⟨(some 109), .bin .neq (.t 108) (.c (.p (.o (.int .i64 0)))), none, 0⟩] 0 none) (.cond (.t 109) (.seq (.reg [
    ⟨(some 110), .call 15 [] 0, none, 0⟩,
    ⟨(some 4), .mv (.t 110), none, 0⟩] 0 none) .ret) .skip)) (.seq (.reg [
    ⟨(some 112), .ld (some 4) (.t 10), none, 0⟩,
    ⟨(some 113), .call 13 [(.t 112)] 0, none, 0⟩,
    ⟨(some 111), .mv (.t 113), none, 0⟩,
    ⟨(some 114), .ext 0 (.t 111), none, 0⟩,
    ⟨(some 115), .ext 1 (.t 111), none, 0⟩,
    ⟨(some 12), .mv (.t 114), none, 0⟩,
    ⟨(some 6), .mv (.t 115), none, 0⟩] 0 none) (.seq (.reg [
    ⟨(some 116), .mv (.t 6), none, 0⟩,
    ⟨(some 117), .bin .eql (.t 116) (.c (.p (.o (.int .i64 0)))), none, 0⟩,
    ⟨(some 118), .mv (.t 117), none, 0⟩,
    ⟨(some 119), .mv (.t 12), (some (118, true)), 0⟩,
    ⟨(some 120), .mv (.t 1), (some (118, true)), 0⟩,
    ⟨(some 121), .bin .eql (.t 119) (.t 120), (some (118, true)), 0⟩,
    ⟨(some 122), .pick (.t 118) (.t 121) (.c (.p (.o (.bool false)))), none, 0⟩,
    ⟨(some 123), .mv (.t 122), none, 0⟩,
    ⟨(some 124), .call 15 [] 0, (some (123, true)), 0⟩,
    ⟨(some 125), .pick (.t 123) (.t 124) (.c (.p (.o (.bool false)))), none, 0⟩,
    ⟨(some 4), .mv (.t 125), none, 0⟩] 0 none) .ret)))))))),
  [.tmp 4], 126, [0, 1, 2, 4, 5, 6, 7, 8, 9, 10, 11, 12]⟩
theorem ok_law07_EtherBack : cFn Tryd.prog eqsT newsT vf_law07_EtherBack.keep Tryd.f11 = some vf_law07_EtherBack := by kernel_rfl
theorem eparse_text (hG : Tabs G) (h7 : 8 ≤ G.n) (htz : G.w0.cell? ⟨7, 15, none⟩ = some (.int .u8 4)) {m : Int} (h : 0 ≤ m ∧ m ≤ 281474976710655) : Det G Tryd.prog 36 [.o (.str (macB m))] [] (.t [.o (.int .u64 m), .o (.int .i64 0)]) [] := by
  have e := eparse_det (G := G) hG h7 htz (macB m) (by rw [macB_size h.1]; omega)
  rw [(read_text h).1, (read_text h).2] at e; exact e
theorem bytes_beq' (a b : ByteArray) : (a.toList == b.toList) = decide (a = b) := by
  by_cases h : a = b
  · subst h; simp
  · rw [show (a.toList == b.toList) = false by rw [Bool.eq_false_iff]; exact fun e => h (beq_bytes e)]; simp [h]
theorem text_eqb {a b : Int} (ha : 0 ≤ a ∧ a ≤ 281474976710655) (hb : 0 ≤ b ∧ b ≤ 281474976710655) : (((macB a).toList == (macB b).toList) == (a == b)) = true := by
  rw [bytes_beq', beq_iff_eq, Bool.eq_iff_iff, decide_eq_true_iff, beq_iff_eq]; exact text_inj' ha hb

theorem forB_yes {a b : Int} (h : a = b) : forB a b = true := by unfold forB; simp [h]
theorem forB_no {a b : Int} (h : ¬ a = b) : (forB a b == (a == 281474976710655)) = true := by
  unfold forB; by_cases k : a = 281474976710655 <;> simp [h, k]
theorem forB_all (b : Int) : forB 281474976710655 b = true := by unfold forB; simp
set_option maxHeartbeats 4000000 in
theorem texts (hG : Tabs G) (h7 : 8 ≤ G.n) (htz : G.w0.cell? ⟨7, 15, none⟩ = some (.int .u8 4)) (a b : Int) (ha : 0 ≤ a ∧ a ≤ 18446744073709551615) (hb : 0 ≤ b ∧ b ≤ 18446744073709551615) (s : ByteArray) (t f k : Int) (d : ByteArray) : Det G Tryd.prog 12 [.o (.int .u64 a), .o (.int .u64 b), .o (.str s), .a [.int .u64 t, .int .u64 f, .int .u16 k, .str d]] [] (vB true) [] := by
  have pb := pvA_bd s
  have pe := peA_or s
  have hi := text_eqb (a := a % 281474976710656) (b := b % 281474976710656) (by omega) (by omega)
  have z := macB_size (m := a % 281474976710656) (by omega)
  refine can_of_W known mix Tryd.func12 (by kernel_rfl) ok_law07_EtherTexts (Nat.le_of_ble_eq_true rfl) ?_
  repeat' ((conv => whnf); first
    | ((with_reducible refine Look.mk ?_); refine ⟨_, rfl, ?_⟩)
    | ((with_reducible refine LookN.zeros ?_))
    | ((with_reducible refine LookN.bytes ?_ ?_); (simp; done))
    | ((with_reducible refine BytesW.bytes ?_))
    | ((with_reducible refine Look.byte ?_ ?_); omega)
    | ((with_reducible refine Look.setb ?_ ?_ ?_); exact bv8_bd _; omega)
    | ((with_reducible refine LookN.setb ?_ ?_ ?_); exact bv8_bd _; omega)
    | ((with_reducible refine LookN.mk ?_); refine ⟨_, rfl, ?_⟩)
    | ((with_reducible refine Need.mk ?_ ?_); first | ((with_reducible refine needB ?_); kernel_rfl) | with_reducible rfl | omega | (with_reducible refine ⟨rfl, ?_⟩; focus omega) | (simp only [ByteArray.size_append, size_lit, List.size_toArray, List.length_cons, List.length_nil, Sp.ofB_size, ByteArray.size_extract, hdr7_size, enc7_size, zer_size, List.length_replicate]; omega) | exact rfl | trivial | exact Nat.le_of_ble_eq_true rfl | (exact ⟨rfl, by omega⟩) | (intro h; first | rfl | cases h) | (simp only [lenS_text, lenS_setN, lenS_zeros]; omega))
    | ((with_reducible refine BytesW.mk ?_); refine ⟨_, rfl, ?_⟩)
    | (with_reducible refine CallW.det (alive_det hG h7 htz) ?_)
    | (with_reducible refine CallW.det (long_det _ _ _ _) ?_)
    | (with_reducible refine CallW.det (eparse_text hG h7 htz (by omega)) ?_)
    | (with_reducible refine CallW.det (mtext_det h7 htz _ (by omega)) ?_)
    | (with_reducible refine CallW.det (eparse_det hG h7 htz _ (by omega)) ?_)
    | (with_reducible refine CallW.det (for_det _ _ _ _ _) ?_)
    | ((with_reducible refine WrT.same ?_ ?_); focus (repeat (first | exact trivial | ((conv => whnf); refine ⟨rfl, ?_⟩))))
    | (with_reducible refine WrT.all ?_)
    | ((with_reducible refine Test.tmodEqT ?_ ?_ ?_); omega; focus first | omega | assumption)
    | ((with_reducible refine Test.tmodEqF ?_ ?_ ?_); omega; focus first | omega | assumption)
    | ((with_reducible refine Test.tmodNeT ?_ ?_ ?_); omega; focus first | omega | assumption)
    | ((with_reducible refine Test.tmodNeF ?_ ?_ ?_); omega; focus first | omega | assumption)
    | ((with_reducible refine Test.tmodEq ?_ (fun h => ?_) (fun h => ?_)); omega)
    | ((with_reducible refine Test.tmodNe ?_ (fun h => ?_) (fun h => ?_)); omega)
    | ((with_reducible refine Test.notT ?_ ?_); focus assumption)
    | ((with_reducible refine Test.notF ?_ ?_); focus assumption)
    | (with_reducible refine Test.notIe (fun h => ?_) (fun h => ?_))
    | (with_reducible refine Test.notD (fun h => ?_) (fun h => ?_))
    | ((with_reducible refine Test.empty (fun h => ?_) (fun h => ?_)))
    | (with_reducible refine Test.tt ?_)
    | (with_reducible refine Test.ff ?_)
    | ((with_reducible refine Test.dt ?_ ?_); omega)
    | ((with_reducible refine Test.df ?_ ?_); omega)
    | (with_reducible refine Test.d (fun h => ?_) (fun h => ?_))
    | ((with_reducible refine Test.ieT ?_ ?_); omega)
    | ((with_reducible refine Test.ieF ?_ ?_); omega)
    | ((with_reducible refine Test.neT ?_ ?_); omega)
    | ((with_reducible refine Test.neF ?_ ?_); omega)
    | (with_reducible refine Test.ie (fun h => ?_) (fun h => ?_))
    | (with_reducible refine Test.ne (fun h => ?_) (fun h => ?_))
    | ((with_reducible refine Test.b ?_ ?_); (focus first | assumption | (simp [negB]; done) | exact rfl | (rw [peA_text (by assumption)]; simp; done) | (rw [forB_yes (by assumption)]; rfl) | (rw [forB_no (by assumption)]; rfl) | (exact forB_all _) | (exact forB_yes (by assumption)) | (rw [hi]; rfl)))
    | ((with_reducible refine Test.nb ?_ ?_); (focus first | assumption | (simp [negB]; done) | exact rfl | (rw [peA_text (by assumption)]; simp; done) | (rw [forB_yes (by assumption)]; rfl) | (rw [forB_no (by assumption)]; rfl) | (exact forB_all _) | (exact forB_yes (by assumption)) | (rw [hi]; rfl)))
    | (with_reducible refine Test.notS (fun h => ?_) (fun h => ?_))
    | (with_reducible refine Test.mk (fun h => ?_) (fun h => ?_))
    | ((with_reducible refine Arith.andu64_1 ?_ ?_); omega)
    | ((with_reducible refine Arith.m48 ?_ ?_); omega)
    | ((with_reducible refine Arith.tdiv ?_ ?_); omega)
    | (with_reducible refine Arith.bv8 ?_)
    | (with_reducible refine Arith.bv16 ?_)
    | (with_reducible refine Arith.bv32 ?_)
    | (with_reducible refine Arith.bv64 ?_)
    | ((with_reducible refine Arith.i64 ?_ ?_); omega)
    | ((with_reducible refine Arith.u64 ?_ ?_); omega)
    | ((with_reducible refine Arith.u32 ?_ ?_); omega)
    | ((with_reducible refine Arith.u16 ?_ ?_); omega)
    | ((with_reducible refine Arith.u8 ?_ ?_); omega)
    | ((with_reducible refine Arith.i32 ?_ ?_); omega)
    | ((with_reducible refine Arith.i64 ?_ ?_); simp (discharger := omega) only [Int.tdiv_eq_ediv_of_nonneg, shr_u8_4, shl_u8_4, shr_u16_4, shl_u16_4, shr_u16_8, shl_u16_8, shr_u32_4, shl_u32_4, shr_u32_8, shl_u32_8, shr_u32_16, shl_u32_16, shr_u32_24, shl_u32_24, shr_u64_4, shl_u64_4, shr_u64_8, shl_u64_8, shr_u64_16, shl_u64_16, shr_u64_24, shl_u64_24, shr_u64_40, shl_u64_40, shr_i64_4, shl_i64_4, shr_i64_8, shl_i64_8, shr_i64_16, shl_i64_16, shr_i64_24, shl_i64_24, shr_i64_40, shl_i64_40]; omega)
    | ((with_reducible refine Arith.u64 ?_ ?_); simp (discharger := omega) only [Int.tdiv_eq_ediv_of_nonneg, shr_u8_4, shl_u8_4, shr_u16_4, shl_u16_4, shr_u16_8, shl_u16_8, shr_u32_4, shl_u32_4, shr_u32_8, shl_u32_8, shr_u32_16, shl_u32_16, shr_u32_24, shl_u32_24, shr_u64_4, shl_u64_4, shr_u64_8, shl_u64_8, shr_u64_16, shl_u64_16, shr_u64_24, shl_u64_24, shr_u64_40, shl_u64_40, shr_i64_4, shl_i64_4, shr_i64_8, shl_i64_8, shr_i64_16, shl_i64_16, shr_i64_24, shl_i64_24, shr_i64_40, shl_i64_40]; omega)
    | ((with_reducible refine Arith.u32 ?_ ?_); simp (discharger := omega) only [Int.tdiv_eq_ediv_of_nonneg, shr_u8_4, shl_u8_4, shr_u16_4, shl_u16_4, shr_u16_8, shl_u16_8, shr_u32_4, shl_u32_4, shr_u32_8, shl_u32_8, shr_u32_16, shl_u32_16, shr_u32_24, shl_u32_24, shr_u64_4, shl_u64_4, shr_u64_8, shl_u64_8, shr_u64_16, shl_u64_16, shr_u64_24, shl_u64_24, shr_u64_40, shl_u64_40, shr_i64_4, shl_i64_4, shr_i64_8, shl_i64_8, shr_i64_16, shl_i64_16, shr_i64_24, shl_i64_24, shr_i64_40, shl_i64_40]; omega)
    | ((with_reducible refine Arith.u16 ?_ ?_); simp (discharger := omega) only [Int.tdiv_eq_ediv_of_nonneg, shr_u8_4, shl_u8_4, shr_u16_4, shl_u16_4, shr_u16_8, shl_u16_8, shr_u32_4, shl_u32_4, shr_u32_8, shl_u32_8, shr_u32_16, shl_u32_16, shr_u32_24, shl_u32_24, shr_u64_4, shl_u64_4, shr_u64_8, shl_u64_8, shr_u64_16, shl_u64_16, shr_u64_24, shl_u64_24, shr_u64_40, shl_u64_40, shr_i64_4, shl_i64_4, shr_i64_8, shl_i64_8, shr_i64_16, shl_i64_16, shr_i64_24, shl_i64_24, shr_i64_40, shl_i64_40]; omega)
    | ((with_reducible refine Arith.u8 ?_ ?_); simp (discharger := omega) only [Int.tdiv_eq_ediv_of_nonneg, shr_u8_4, shl_u8_4, shr_u16_4, shl_u16_4, shr_u16_8, shl_u16_8, shr_u32_4, shl_u32_4, shr_u32_8, shl_u32_8, shr_u32_16, shl_u32_16, shr_u32_24, shl_u32_24, shr_u64_4, shl_u64_4, shr_u64_8, shl_u64_8, shr_u64_16, shl_u64_16, shr_u64_24, shl_u64_24, shr_u64_40, shl_u64_40, shr_i64_4, shl_i64_4, shr_i64_8, shl_i64_8, shr_i64_16, shl_i64_16, shr_i64_24, shl_i64_24, shr_i64_40, shl_i64_40]; omega)
    | (with_reducible refine Arith.mk ?_)
    | (with_reducible refine Ends.mk ?_))
  all_goals first | exact ⟨rfl, rfl⟩ | (exfalso; simp_all; done) | (exfalso; omega)

theorem encE_ok {t f : Int} {d : ByteArray} (he : encE t f d = 0) : t ≤ 281474976710655 ∧ f ≤ 281474976710655 ∧ grp f = false ∧ d.size ≤ 65535 := by
  unfold encE at he; split at he
  · simp at he
  · rename_i h1; split at he
    · simp at he
    · rename_i h2
      refine ⟨by omega, by omega, ?_, by omega⟩
      cases h : grp f with
      | true => exact absurd (.inr (.inr h)) h1
      | false => rfl
theorem enc_yes (t f k : Int) (d : ByteArray) (ht : 0 ≤ t ∧ t ≤ 18446744073709551615) (hf : 0 ≤ f ∧ f ≤ 18446744073709551615) (hk : 0 ≤ k ∧ k ≤ 65535) (hd : d.size ≤ 1000000) (he : encE t f d = 0) : Det G Tryd.prog 13 [.a [.int .u64 t, .int .u64 f, .int .u16 k, .str d]] [] (.t [.o (.str (enc7 t f k d)), .o (.int .i64 0)]) [] := by
  have h := enc_det (G := G) t f k d ht hf hk hd
  obtain ⟨h1, h2, h3, h4⟩ := encE_ok he
  rw [he, show encS t f k d = enc7 t f k d by unfold encS; rw [if_neg (fun hh => by rcases hh with hh | hh | hh <;> first | omega | simp_all), if_neg (by omega)]] at h
  exact h
theorem dec_yes' (s : ByteArray) (hs : s.size ≤ 1000000) (he : decE s = 0) : Det G Tryd.prog 14 [.o (.str s)] [] (.t [.a [.int .u64 (nAt s 0 6), .int .u64 (nAt s 6 6), .int .u16 (nAt s 12 2), .str (s.extract 14 s.size)], .o (.int .i64 0)]) [] := by
  have h := dec_det (G := G) s hs
  rw [← dec_yes he] at h; exact h
theorem decE_ok {s : ByteArray} (he : decE s = 0) : 60 ≤ s.size ∧ s.size ≤ 65549 ∧ grp (nAt s 6 6) = false := by
  unfold decE at he; split at he
  · simp at he
  · split at he
    · simp at he
    · split at he
      · simp at he
      · rename_i h; exact ⟨by omega, by omega, by simpa using h⟩
/-- What was written is read. -/
theorem dec_enc (t f k : Int) (d : ByteArray) (hk : 0 ≤ k ∧ k ≤ 65535) (h0 : 0 ≤ t ∧ 0 ≤ f) (he : encE t f d = 0) : Det G Tryd.prog 14 [.o (.str (enc7 t f k d))] [] (.t [.a [.int .u64 t, .int .u64 f, .int .u16 k, .str (d ++ zer (46 - d.size))], .o (.int .i64 0)]) [] := by
  obtain ⟨h1, h2, h3, h4⟩ := encE_ok he
  have hz := enc7_size t f k d
  have ez : 60 - (hdr7 t f k d).size = 46 - d.size := by rw [hdr7_size]; omega
  have e := enc_hdr t f k d
  rw [ez] at e
  obtain ⟨r1, r2, r3, r4⟩ := hdr_read t f k (d ++ zer (46 - d.size)) (by omega) (by omega) hk
  rw [← e] at r1 r2 r3 r4
  have h := dec_yes' (G := G) (enc7 t f k d) (by omega) (by unfold decE; rw [if_neg (by omega), if_neg (by omega), r2, h3]; rfl)
  rw [r1, r2, r3, r4] at h; exact h
/-- What was read is written as it was. -/
theorem enc_dec (s : ByteArray) (he : decE s = 0) : Det G Tryd.prog 13 [.a [.int .u64 (nAt s 0 6), .int .u64 (nAt s 6 6), .int .u16 (nAt s 12 2), .str (s.extract 14 s.size)]] [] (.t [.o (.str s), .o (.int .i64 0)]) [] := by
  obtain ⟨h1, h2, h3⟩ := decE_ok he
  have b0 := nAt_bd s 0 6 (by decide)
  have b6 := nAt_bd s 6 6 (by decide)
  have b2 := nAt2_bd s 12
  have hz : (s.extract 14 s.size).size = s.size - 14 := by rw [ByteArray.size_extract]; omega
  have h := enc_yes (G := G) (nAt s 0 6) (nAt s 6 6) (nAt s 12 2) (s.extract 14 s.size) (by omega) (by omega) (by omega) (by omega) (by unfold encE; rw [if_neg (by rw [h3]; simp; omega), if_neg (by omega)])
  rw [← enc_full _ _ _ _ (by omega), hdr_back s (by omega)] at h; exact h
theorem app_first (d : ByteArray) (n : Nat) : (((d ++ zer n).extract 0 d.size).toList == d.toList) = true := by
  rw [bytes_beq', decide_eq_true_iff]
  apply list_bytes
  rw [Sp.extract_toList, Sp.append_toList, List.drop_zero, ← Sp.size_toList, List.take_left]
theorem app_rest (d : ByteArray) (n : Nat) : (d ++ zer n).extract d.size (d ++ zer n).size = zer n := by
  apply list_bytes
  have e : (d ++ zer n).size = (d ++ zer n).data.toList.length := (Sp.size_toList _).symm
  have e2 : d.size = d.data.toList.length := (Sp.size_toList _).symm
  rw [Sp.extract_toList, e, List.take_length, Sp.append_toList, e2, List.drop_left]

set_option maxHeartbeats 8000000 in
theorem back_ (hG : Tabs G) (h7 : 8 ≤ G.n) (htz : G.w0.cell? ⟨7, 15, none⟩ = some (.int .u8 4)) (t f k : Int) (d : ByteArray) (s : ByteArray) (ht : 0 ≤ t ∧ t ≤ 18446744073709551615) (hf : 0 ≤ f ∧ f ≤ 18446744073709551615) (hk : 0 ≤ k ∧ k ≤ 65535) : Det G Tryd.prog 11 [.a [.int .u64 t, .int .u64 f, .int .u16 k, .str d], .o (.str s)] [] (vB true) [] := by
  have z1 := enc7_size t f k d
  have z2 : (d ++ zer (46 - d.size)).size = d.size + (46 - d.size) := by rw [ByteArray.size_append, zer_size]
  have a1 := app_first d (46 - d.size)
  have a2 := app_rest d (46 - d.size)
  have a3 := zer_size (46 - d.size)
  have a4 : ((d ++ zer (46 - d.size)).extract ((d.size : Int)).toNat (((d ++ zer (46 - d.size)).size : Int)).toNat).size = 46 - d.size := by
    show ((d ++ zer (46 - d.size)).extract d.size (d ++ zer (46 - d.size)).size).size = _
    rw [a2, a3]
  by_cases he : encE t f d = 0
  · by_cases hd : decE s = 0
    · refine can_of_W known mix Tryd.func11 (by kernel_rfl) ok_law07_EtherBack (Nat.le_of_ble_eq_true rfl) ?_
      repeat' ((conv => whnf); first
    | ((with_reducible refine Look.mk ?_); refine ⟨_, rfl, ?_⟩)
    | ((with_reducible refine LookN.zeros ?_))
    | ((with_reducible refine LookN.bytes ?_ ?_); (simp; done))
    | ((with_reducible refine BytesW.bytes ?_))
    | ((with_reducible refine Look.byte ?_ ?_); omega)
    | ((with_reducible refine Look.setb ?_ ?_ ?_); exact bv8_bd _; omega)
    | ((with_reducible refine LookN.setb ?_ ?_ ?_); exact bv8_bd _; omega)
    | ((with_reducible refine LookN.mk ?_); refine ⟨_, rfl, ?_⟩)
    | ((with_reducible refine Need.mk ?_ ?_); first | ((with_reducible refine needB ?_); kernel_rfl) | with_reducible rfl | omega | (with_reducible refine ⟨rfl, ?_⟩; focus omega) | (simp only [ByteArray.size_append, size_lit, List.size_toArray, List.length_cons, List.length_nil, Sp.ofB_size, ByteArray.size_extract, hdr7_size, enc7_size, zer_size, List.length_replicate]; omega) | exact rfl | trivial | exact Nat.le_of_ble_eq_true rfl | (exact ⟨rfl, by omega⟩) | (intro h; first | rfl | cases h) | (simp only [lenS_text, lenS_setN, lenS_zeros]; omega))
    | ((with_reducible refine BytesW.mk ?_); refine ⟨_, rfl, ?_⟩)
    | (with_reducible refine CallW.det (alive_det hG h7 htz) ?_)
    | (with_reducible refine CallW.det (long_det _ _ _ _) ?_)
    | (with_reducible refine CallW.det (dec_enc t f k d hk (by omega) he) ?_)
    | (with_reducible refine CallW.det (enc_yes t f k d ht hf hk (by omega) he) ?_)
    | (with_reducible refine CallW.det (enc_dec s hd) ?_)
    | (with_reducible refine CallW.det (dec_yes' s (by omega) hd) ?_)
    | ((with_reducible refine WrT.same ?_ ?_); focus (repeat (first | exact trivial | ((conv => whnf); refine ⟨rfl, ?_⟩))))
    | (with_reducible refine WrT.all ?_)
    | ((with_reducible refine Test.tmodEqT ?_ ?_ ?_); omega; focus first | omega | assumption)
    | ((with_reducible refine Test.tmodEqF ?_ ?_ ?_); omega; focus first | omega | assumption)
    | ((with_reducible refine Test.tmodNeT ?_ ?_ ?_); omega; focus first | omega | assumption)
    | ((with_reducible refine Test.tmodNeF ?_ ?_ ?_); omega; focus first | omega | assumption)
    | ((with_reducible refine Test.tmodEq ?_ (fun h => ?_) (fun h => ?_)); omega)
    | ((with_reducible refine Test.tmodNe ?_ (fun h => ?_) (fun h => ?_)); omega)
    | ((with_reducible refine Test.notT ?_ ?_); focus assumption)
    | ((with_reducible refine Test.notF ?_ ?_); focus assumption)
    | (with_reducible refine Test.notIe (fun h => ?_) (fun h => ?_))
    | (with_reducible refine Test.notD (fun h => ?_) (fun h => ?_))
    | ((with_reducible refine Test.empty (fun h => ?_) (fun h => ?_)))
    | (with_reducible refine Test.tt ?_)
    | (with_reducible refine Test.ff ?_)
    | ((with_reducible refine Test.dt ?_ ?_); omega)
    | ((with_reducible refine Test.df ?_ ?_); omega)
    | (with_reducible refine Test.d (fun h => ?_) (fun h => ?_))
    | ((with_reducible refine Test.ieT ?_ ?_); omega)
    | ((with_reducible refine Test.ieF ?_ ?_); omega)
    | ((with_reducible refine Test.neT ?_ ?_); omega)
    | ((with_reducible refine Test.neF ?_ ?_); omega)
    | (with_reducible refine Test.ie (fun h => ?_) (fun h => ?_))
    | (with_reducible refine Test.ne (fun h => ?_) (fun h => ?_))
    | ((with_reducible refine Test.b ?_ ?_); (focus first | assumption | (simp [negB]; done) | exact rfl | (exact app_first _ _) | (simp only [Int.toNat_natCast, a2, a3]; simp [zer]; done)))
    | ((with_reducible refine Test.nb ?_ ?_); (focus first | assumption | (simp [negB]; done) | exact rfl | (exact app_first _ _) | (simp only [Int.toNat_natCast, a2, a3]; simp [zer]; done)))
    | (with_reducible refine Test.notS (fun h => ?_) (fun h => ?_))
    | (with_reducible refine Test.mk (fun h => ?_) (fun h => ?_))
    | ((with_reducible refine Arith.andu64_1 ?_ ?_); omega)
    | ((with_reducible refine Arith.m48 ?_ ?_); omega)
    | ((with_reducible refine Arith.tdiv ?_ ?_); omega)
    | (with_reducible refine Arith.bv8 ?_)
    | (with_reducible refine Arith.bv16 ?_)
    | (with_reducible refine Arith.bv32 ?_)
    | (with_reducible refine Arith.bv64 ?_)
    | ((with_reducible refine Arith.i64 ?_ ?_); omega)
    | ((with_reducible refine Arith.u64 ?_ ?_); omega)
    | ((with_reducible refine Arith.u32 ?_ ?_); omega)
    | ((with_reducible refine Arith.u16 ?_ ?_); omega)
    | ((with_reducible refine Arith.u8 ?_ ?_); omega)
    | ((with_reducible refine Arith.i32 ?_ ?_); omega)
    | ((with_reducible refine Arith.i64 ?_ ?_); simp (discharger := omega) only [Int.tdiv_eq_ediv_of_nonneg, shr_u8_4, shl_u8_4, shr_u16_4, shl_u16_4, shr_u16_8, shl_u16_8, shr_u32_4, shl_u32_4, shr_u32_8, shl_u32_8, shr_u32_16, shl_u32_16, shr_u32_24, shl_u32_24, shr_u64_4, shl_u64_4, shr_u64_8, shl_u64_8, shr_u64_16, shl_u64_16, shr_u64_24, shl_u64_24, shr_u64_40, shl_u64_40, shr_i64_4, shl_i64_4, shr_i64_8, shl_i64_8, shr_i64_16, shl_i64_16, shr_i64_24, shl_i64_24, shr_i64_40, shl_i64_40]; omega)
    | ((with_reducible refine Arith.u64 ?_ ?_); simp (discharger := omega) only [Int.tdiv_eq_ediv_of_nonneg, shr_u8_4, shl_u8_4, shr_u16_4, shl_u16_4, shr_u16_8, shl_u16_8, shr_u32_4, shl_u32_4, shr_u32_8, shl_u32_8, shr_u32_16, shl_u32_16, shr_u32_24, shl_u32_24, shr_u64_4, shl_u64_4, shr_u64_8, shl_u64_8, shr_u64_16, shl_u64_16, shr_u64_24, shl_u64_24, shr_u64_40, shl_u64_40, shr_i64_4, shl_i64_4, shr_i64_8, shl_i64_8, shr_i64_16, shl_i64_16, shr_i64_24, shl_i64_24, shr_i64_40, shl_i64_40]; omega)
    | ((with_reducible refine Arith.u32 ?_ ?_); simp (discharger := omega) only [Int.tdiv_eq_ediv_of_nonneg, shr_u8_4, shl_u8_4, shr_u16_4, shl_u16_4, shr_u16_8, shl_u16_8, shr_u32_4, shl_u32_4, shr_u32_8, shl_u32_8, shr_u32_16, shl_u32_16, shr_u32_24, shl_u32_24, shr_u64_4, shl_u64_4, shr_u64_8, shl_u64_8, shr_u64_16, shl_u64_16, shr_u64_24, shl_u64_24, shr_u64_40, shl_u64_40, shr_i64_4, shl_i64_4, shr_i64_8, shl_i64_8, shr_i64_16, shl_i64_16, shr_i64_24, shl_i64_24, shr_i64_40, shl_i64_40]; omega)
    | ((with_reducible refine Arith.u16 ?_ ?_); simp (discharger := omega) only [Int.tdiv_eq_ediv_of_nonneg, shr_u8_4, shl_u8_4, shr_u16_4, shl_u16_4, shr_u16_8, shl_u16_8, shr_u32_4, shl_u32_4, shr_u32_8, shl_u32_8, shr_u32_16, shl_u32_16, shr_u32_24, shl_u32_24, shr_u64_4, shl_u64_4, shr_u64_8, shl_u64_8, shr_u64_16, shl_u64_16, shr_u64_24, shl_u64_24, shr_u64_40, shl_u64_40, shr_i64_4, shl_i64_4, shr_i64_8, shl_i64_8, shr_i64_16, shl_i64_16, shr_i64_24, shl_i64_24, shr_i64_40, shl_i64_40]; omega)
    | ((with_reducible refine Arith.u8 ?_ ?_); simp (discharger := omega) only [Int.tdiv_eq_ediv_of_nonneg, shr_u8_4, shl_u8_4, shr_u16_4, shl_u16_4, shr_u16_8, shl_u16_8, shr_u32_4, shl_u32_4, shr_u32_8, shl_u32_8, shr_u32_16, shl_u32_16, shr_u32_24, shl_u32_24, shr_u64_4, shl_u64_4, shr_u64_8, shl_u64_8, shr_u64_16, shl_u64_16, shr_u64_24, shl_u64_24, shr_u64_40, shl_u64_40, shr_i64_4, shl_i64_4, shr_i64_8, shl_i64_8, shr_i64_16, shl_i64_16, shr_i64_24, shl_i64_24, shr_i64_40, shl_i64_40]; omega)
    | (with_reducible refine Arith.mk ?_)
    | (with_reducible refine Ends.mk ?_))
      all_goals first | exact ⟨rfl, rfl⟩ | (exfalso; simp_all; done) | (exfalso; omega)
    · refine can_of_W known mix Tryd.func11 (by kernel_rfl) ok_law07_EtherBack (Nat.le_of_ble_eq_true rfl) ?_
      repeat' ((conv => whnf); first
    | ((with_reducible refine Look.mk ?_); refine ⟨_, rfl, ?_⟩)
    | ((with_reducible refine LookN.zeros ?_))
    | ((with_reducible refine LookN.bytes ?_ ?_); (simp; done))
    | ((with_reducible refine BytesW.bytes ?_))
    | ((with_reducible refine Look.byte ?_ ?_); omega)
    | ((with_reducible refine Look.setb ?_ ?_ ?_); exact bv8_bd _; omega)
    | ((with_reducible refine LookN.setb ?_ ?_ ?_); exact bv8_bd _; omega)
    | ((with_reducible refine LookN.mk ?_); refine ⟨_, rfl, ?_⟩)
    | ((with_reducible refine Need.mk ?_ ?_); first | ((with_reducible refine needB ?_); kernel_rfl) | with_reducible rfl | omega | (with_reducible refine ⟨rfl, ?_⟩; focus omega) | (simp only [ByteArray.size_append, size_lit, List.size_toArray, List.length_cons, List.length_nil, Sp.ofB_size, ByteArray.size_extract, hdr7_size, enc7_size, zer_size, List.length_replicate]; omega) | exact rfl | trivial | exact Nat.le_of_ble_eq_true rfl | (exact ⟨rfl, by omega⟩) | (intro h; first | rfl | cases h) | (simp only [lenS_text, lenS_setN, lenS_zeros]; omega))
    | ((with_reducible refine BytesW.mk ?_); refine ⟨_, rfl, ?_⟩)
    | (with_reducible refine CallW.det (alive_det hG h7 htz) ?_)
    | (with_reducible refine CallW.det (long_det _ _ _ _) ?_)
    | (with_reducible refine CallW.det (dec_enc t f k d hk (by omega) he) ?_)
    | (with_reducible refine CallW.det (enc_yes t f k d ht hf hk (by omega) he) ?_)
    | (with_reducible refine CallW.det (dec_det _ (by omega)) ?_)
    | ((with_reducible refine WrT.same ?_ ?_); focus (repeat (first | exact trivial | ((conv => whnf); refine ⟨rfl, ?_⟩))))
    | (with_reducible refine WrT.all ?_)
    | ((with_reducible refine Test.tmodEqT ?_ ?_ ?_); omega; focus first | omega | assumption)
    | ((with_reducible refine Test.tmodEqF ?_ ?_ ?_); omega; focus first | omega | assumption)
    | ((with_reducible refine Test.tmodNeT ?_ ?_ ?_); omega; focus first | omega | assumption)
    | ((with_reducible refine Test.tmodNeF ?_ ?_ ?_); omega; focus first | omega | assumption)
    | ((with_reducible refine Test.tmodEq ?_ (fun h => ?_) (fun h => ?_)); omega)
    | ((with_reducible refine Test.tmodNe ?_ (fun h => ?_) (fun h => ?_)); omega)
    | ((with_reducible refine Test.notT ?_ ?_); focus assumption)
    | ((with_reducible refine Test.notF ?_ ?_); focus assumption)
    | (with_reducible refine Test.notIe (fun h => ?_) (fun h => ?_))
    | (with_reducible refine Test.notD (fun h => ?_) (fun h => ?_))
    | ((with_reducible refine Test.empty (fun h => ?_) (fun h => ?_)))
    | (with_reducible refine Test.tt ?_)
    | (with_reducible refine Test.ff ?_)
    | ((with_reducible refine Test.dt ?_ ?_); omega)
    | ((with_reducible refine Test.df ?_ ?_); omega)
    | (with_reducible refine Test.d (fun h => ?_) (fun h => ?_))
    | ((with_reducible refine Test.ieT ?_ ?_); omega)
    | ((with_reducible refine Test.ieF ?_ ?_); omega)
    | ((with_reducible refine Test.neT ?_ ?_); omega)
    | ((with_reducible refine Test.neF ?_ ?_); omega)
    | (with_reducible refine Test.ie (fun h => ?_) (fun h => ?_))
    | (with_reducible refine Test.ne (fun h => ?_) (fun h => ?_))
    | ((with_reducible refine Test.b ?_ ?_); (focus first | assumption | (simp [negB]; done) | exact rfl | (exact app_first _ _) | (simp only [Int.toNat_natCast, a2, a3]; simp [zer]; done)))
    | ((with_reducible refine Test.nb ?_ ?_); (focus first | assumption | (simp [negB]; done) | exact rfl | (exact app_first _ _) | (simp only [Int.toNat_natCast, a2, a3]; simp [zer]; done)))
    | (with_reducible refine Test.notS (fun h => ?_) (fun h => ?_))
    | (with_reducible refine Test.mk (fun h => ?_) (fun h => ?_))
    | ((with_reducible refine Arith.andu64_1 ?_ ?_); omega)
    | ((with_reducible refine Arith.m48 ?_ ?_); omega)
    | ((with_reducible refine Arith.tdiv ?_ ?_); omega)
    | (with_reducible refine Arith.bv8 ?_)
    | (with_reducible refine Arith.bv16 ?_)
    | (with_reducible refine Arith.bv32 ?_)
    | (with_reducible refine Arith.bv64 ?_)
    | ((with_reducible refine Arith.i64 ?_ ?_); omega)
    | ((with_reducible refine Arith.u64 ?_ ?_); omega)
    | ((with_reducible refine Arith.u32 ?_ ?_); omega)
    | ((with_reducible refine Arith.u16 ?_ ?_); omega)
    | ((with_reducible refine Arith.u8 ?_ ?_); omega)
    | ((with_reducible refine Arith.i32 ?_ ?_); omega)
    | ((with_reducible refine Arith.i64 ?_ ?_); simp (discharger := omega) only [Int.tdiv_eq_ediv_of_nonneg, shr_u8_4, shl_u8_4, shr_u16_4, shl_u16_4, shr_u16_8, shl_u16_8, shr_u32_4, shl_u32_4, shr_u32_8, shl_u32_8, shr_u32_16, shl_u32_16, shr_u32_24, shl_u32_24, shr_u64_4, shl_u64_4, shr_u64_8, shl_u64_8, shr_u64_16, shl_u64_16, shr_u64_24, shl_u64_24, shr_u64_40, shl_u64_40, shr_i64_4, shl_i64_4, shr_i64_8, shl_i64_8, shr_i64_16, shl_i64_16, shr_i64_24, shl_i64_24, shr_i64_40, shl_i64_40]; omega)
    | ((with_reducible refine Arith.u64 ?_ ?_); simp (discharger := omega) only [Int.tdiv_eq_ediv_of_nonneg, shr_u8_4, shl_u8_4, shr_u16_4, shl_u16_4, shr_u16_8, shl_u16_8, shr_u32_4, shl_u32_4, shr_u32_8, shl_u32_8, shr_u32_16, shl_u32_16, shr_u32_24, shl_u32_24, shr_u64_4, shl_u64_4, shr_u64_8, shl_u64_8, shr_u64_16, shl_u64_16, shr_u64_24, shl_u64_24, shr_u64_40, shl_u64_40, shr_i64_4, shl_i64_4, shr_i64_8, shl_i64_8, shr_i64_16, shl_i64_16, shr_i64_24, shl_i64_24, shr_i64_40, shl_i64_40]; omega)
    | ((with_reducible refine Arith.u32 ?_ ?_); simp (discharger := omega) only [Int.tdiv_eq_ediv_of_nonneg, shr_u8_4, shl_u8_4, shr_u16_4, shl_u16_4, shr_u16_8, shl_u16_8, shr_u32_4, shl_u32_4, shr_u32_8, shl_u32_8, shr_u32_16, shl_u32_16, shr_u32_24, shl_u32_24, shr_u64_4, shl_u64_4, shr_u64_8, shl_u64_8, shr_u64_16, shl_u64_16, shr_u64_24, shl_u64_24, shr_u64_40, shl_u64_40, shr_i64_4, shl_i64_4, shr_i64_8, shl_i64_8, shr_i64_16, shl_i64_16, shr_i64_24, shl_i64_24, shr_i64_40, shl_i64_40]; omega)
    | ((with_reducible refine Arith.u16 ?_ ?_); simp (discharger := omega) only [Int.tdiv_eq_ediv_of_nonneg, shr_u8_4, shl_u8_4, shr_u16_4, shl_u16_4, shr_u16_8, shl_u16_8, shr_u32_4, shl_u32_4, shr_u32_8, shl_u32_8, shr_u32_16, shl_u32_16, shr_u32_24, shl_u32_24, shr_u64_4, shl_u64_4, shr_u64_8, shl_u64_8, shr_u64_16, shl_u64_16, shr_u64_24, shl_u64_24, shr_u64_40, shl_u64_40, shr_i64_4, shl_i64_4, shr_i64_8, shl_i64_8, shr_i64_16, shl_i64_16, shr_i64_24, shl_i64_24, shr_i64_40, shl_i64_40]; omega)
    | ((with_reducible refine Arith.u8 ?_ ?_); simp (discharger := omega) only [Int.tdiv_eq_ediv_of_nonneg, shr_u8_4, shl_u8_4, shr_u16_4, shl_u16_4, shr_u16_8, shl_u16_8, shr_u32_4, shl_u32_4, shr_u32_8, shl_u32_8, shr_u32_16, shl_u32_16, shr_u32_24, shl_u32_24, shr_u64_4, shl_u64_4, shr_u64_8, shl_u64_8, shr_u64_16, shl_u64_16, shr_u64_24, shl_u64_24, shr_u64_40, shl_u64_40, shr_i64_4, shl_i64_4, shr_i64_8, shl_i64_8, shr_i64_16, shl_i64_16, shr_i64_24, shl_i64_24, shr_i64_40, shl_i64_40]; omega)
    | (with_reducible refine Arith.mk ?_)
    | (with_reducible refine Ends.mk ?_))
      all_goals first | exact ⟨rfl, rfl⟩ | (exfalso; simp_all; done) | (exfalso; omega)
  · by_cases hd : decE s = 0
    · refine can_of_W known mix Tryd.func11 (by kernel_rfl) ok_law07_EtherBack (Nat.le_of_ble_eq_true rfl) ?_
      repeat' ((conv => whnf); first
    | ((with_reducible refine Look.mk ?_); refine ⟨_, rfl, ?_⟩)
    | ((with_reducible refine LookN.zeros ?_))
    | ((with_reducible refine LookN.bytes ?_ ?_); (simp; done))
    | ((with_reducible refine BytesW.bytes ?_))
    | ((with_reducible refine Look.byte ?_ ?_); omega)
    | ((with_reducible refine Look.setb ?_ ?_ ?_); exact bv8_bd _; omega)
    | ((with_reducible refine LookN.setb ?_ ?_ ?_); exact bv8_bd _; omega)
    | ((with_reducible refine LookN.mk ?_); refine ⟨_, rfl, ?_⟩)
    | ((with_reducible refine Need.mk ?_ ?_); first | ((with_reducible refine needB ?_); kernel_rfl) | with_reducible rfl | omega | (with_reducible refine ⟨rfl, ?_⟩; focus omega) | (simp only [ByteArray.size_append, size_lit, List.size_toArray, List.length_cons, List.length_nil, Sp.ofB_size, ByteArray.size_extract, hdr7_size, enc7_size, zer_size, List.length_replicate]; omega) | exact rfl | trivial | exact Nat.le_of_ble_eq_true rfl | (exact ⟨rfl, by omega⟩) | (intro h; first | rfl | cases h) | (simp only [lenS_text, lenS_setN, lenS_zeros]; omega))
    | ((with_reducible refine BytesW.mk ?_); refine ⟨_, rfl, ?_⟩)
    | (with_reducible refine CallW.det (alive_det hG h7 htz) ?_)
    | (with_reducible refine CallW.det (long_det _ _ _ _) ?_)
    | (with_reducible refine CallW.det (enc_det _ _ _ _ (by omega) (by omega) (by omega) (by omega)) ?_)
    | (with_reducible refine CallW.det (enc_dec s hd) ?_)
    | (with_reducible refine CallW.det (dec_yes' s (by omega) hd) ?_)
    | ((with_reducible refine WrT.same ?_ ?_); focus (repeat (first | exact trivial | ((conv => whnf); refine ⟨rfl, ?_⟩))))
    | (with_reducible refine WrT.all ?_)
    | ((with_reducible refine Test.tmodEqT ?_ ?_ ?_); omega; focus first | omega | assumption)
    | ((with_reducible refine Test.tmodEqF ?_ ?_ ?_); omega; focus first | omega | assumption)
    | ((with_reducible refine Test.tmodNeT ?_ ?_ ?_); omega; focus first | omega | assumption)
    | ((with_reducible refine Test.tmodNeF ?_ ?_ ?_); omega; focus first | omega | assumption)
    | ((with_reducible refine Test.tmodEq ?_ (fun h => ?_) (fun h => ?_)); omega)
    | ((with_reducible refine Test.tmodNe ?_ (fun h => ?_) (fun h => ?_)); omega)
    | ((with_reducible refine Test.notT ?_ ?_); focus assumption)
    | ((with_reducible refine Test.notF ?_ ?_); focus assumption)
    | (with_reducible refine Test.notIe (fun h => ?_) (fun h => ?_))
    | (with_reducible refine Test.notD (fun h => ?_) (fun h => ?_))
    | ((with_reducible refine Test.empty (fun h => ?_) (fun h => ?_)))
    | (with_reducible refine Test.tt ?_)
    | (with_reducible refine Test.ff ?_)
    | ((with_reducible refine Test.dt ?_ ?_); omega)
    | ((with_reducible refine Test.df ?_ ?_); omega)
    | (with_reducible refine Test.d (fun h => ?_) (fun h => ?_))
    | ((with_reducible refine Test.ieT ?_ ?_); omega)
    | ((with_reducible refine Test.ieF ?_ ?_); omega)
    | ((with_reducible refine Test.neT ?_ ?_); omega)
    | ((with_reducible refine Test.neF ?_ ?_); omega)
    | (with_reducible refine Test.ie (fun h => ?_) (fun h => ?_))
    | (with_reducible refine Test.ne (fun h => ?_) (fun h => ?_))
    | ((with_reducible refine Test.b ?_ ?_); (focus first | assumption | (simp [negB]; done) | exact rfl | (exact app_first _ _) | (simp only [Int.toNat_natCast, a2, a3]; simp [zer]; done)))
    | ((with_reducible refine Test.nb ?_ ?_); (focus first | assumption | (simp [negB]; done) | exact rfl | (exact app_first _ _) | (simp only [Int.toNat_natCast, a2, a3]; simp [zer]; done)))
    | (with_reducible refine Test.notS (fun h => ?_) (fun h => ?_))
    | (with_reducible refine Test.mk (fun h => ?_) (fun h => ?_))
    | ((with_reducible refine Arith.andu64_1 ?_ ?_); omega)
    | ((with_reducible refine Arith.m48 ?_ ?_); omega)
    | ((with_reducible refine Arith.tdiv ?_ ?_); omega)
    | (with_reducible refine Arith.bv8 ?_)
    | (with_reducible refine Arith.bv16 ?_)
    | (with_reducible refine Arith.bv32 ?_)
    | (with_reducible refine Arith.bv64 ?_)
    | ((with_reducible refine Arith.i64 ?_ ?_); omega)
    | ((with_reducible refine Arith.u64 ?_ ?_); omega)
    | ((with_reducible refine Arith.u32 ?_ ?_); omega)
    | ((with_reducible refine Arith.u16 ?_ ?_); omega)
    | ((with_reducible refine Arith.u8 ?_ ?_); omega)
    | ((with_reducible refine Arith.i32 ?_ ?_); omega)
    | ((with_reducible refine Arith.i64 ?_ ?_); simp (discharger := omega) only [Int.tdiv_eq_ediv_of_nonneg, shr_u8_4, shl_u8_4, shr_u16_4, shl_u16_4, shr_u16_8, shl_u16_8, shr_u32_4, shl_u32_4, shr_u32_8, shl_u32_8, shr_u32_16, shl_u32_16, shr_u32_24, shl_u32_24, shr_u64_4, shl_u64_4, shr_u64_8, shl_u64_8, shr_u64_16, shl_u64_16, shr_u64_24, shl_u64_24, shr_u64_40, shl_u64_40, shr_i64_4, shl_i64_4, shr_i64_8, shl_i64_8, shr_i64_16, shl_i64_16, shr_i64_24, shl_i64_24, shr_i64_40, shl_i64_40]; omega)
    | ((with_reducible refine Arith.u64 ?_ ?_); simp (discharger := omega) only [Int.tdiv_eq_ediv_of_nonneg, shr_u8_4, shl_u8_4, shr_u16_4, shl_u16_4, shr_u16_8, shl_u16_8, shr_u32_4, shl_u32_4, shr_u32_8, shl_u32_8, shr_u32_16, shl_u32_16, shr_u32_24, shl_u32_24, shr_u64_4, shl_u64_4, shr_u64_8, shl_u64_8, shr_u64_16, shl_u64_16, shr_u64_24, shl_u64_24, shr_u64_40, shl_u64_40, shr_i64_4, shl_i64_4, shr_i64_8, shl_i64_8, shr_i64_16, shl_i64_16, shr_i64_24, shl_i64_24, shr_i64_40, shl_i64_40]; omega)
    | ((with_reducible refine Arith.u32 ?_ ?_); simp (discharger := omega) only [Int.tdiv_eq_ediv_of_nonneg, shr_u8_4, shl_u8_4, shr_u16_4, shl_u16_4, shr_u16_8, shl_u16_8, shr_u32_4, shl_u32_4, shr_u32_8, shl_u32_8, shr_u32_16, shl_u32_16, shr_u32_24, shl_u32_24, shr_u64_4, shl_u64_4, shr_u64_8, shl_u64_8, shr_u64_16, shl_u64_16, shr_u64_24, shl_u64_24, shr_u64_40, shl_u64_40, shr_i64_4, shl_i64_4, shr_i64_8, shl_i64_8, shr_i64_16, shl_i64_16, shr_i64_24, shl_i64_24, shr_i64_40, shl_i64_40]; omega)
    | ((with_reducible refine Arith.u16 ?_ ?_); simp (discharger := omega) only [Int.tdiv_eq_ediv_of_nonneg, shr_u8_4, shl_u8_4, shr_u16_4, shl_u16_4, shr_u16_8, shl_u16_8, shr_u32_4, shl_u32_4, shr_u32_8, shl_u32_8, shr_u32_16, shl_u32_16, shr_u32_24, shl_u32_24, shr_u64_4, shl_u64_4, shr_u64_8, shl_u64_8, shr_u64_16, shl_u64_16, shr_u64_24, shl_u64_24, shr_u64_40, shl_u64_40, shr_i64_4, shl_i64_4, shr_i64_8, shl_i64_8, shr_i64_16, shl_i64_16, shr_i64_24, shl_i64_24, shr_i64_40, shl_i64_40]; omega)
    | ((with_reducible refine Arith.u8 ?_ ?_); simp (discharger := omega) only [Int.tdiv_eq_ediv_of_nonneg, shr_u8_4, shl_u8_4, shr_u16_4, shl_u16_4, shr_u16_8, shl_u16_8, shr_u32_4, shl_u32_4, shr_u32_8, shl_u32_8, shr_u32_16, shl_u32_16, shr_u32_24, shl_u32_24, shr_u64_4, shl_u64_4, shr_u64_8, shl_u64_8, shr_u64_16, shl_u64_16, shr_u64_24, shl_u64_24, shr_u64_40, shl_u64_40, shr_i64_4, shl_i64_4, shr_i64_8, shl_i64_8, shr_i64_16, shl_i64_16, shr_i64_24, shl_i64_24, shr_i64_40, shl_i64_40]; omega)
    | (with_reducible refine Arith.mk ?_)
    | (with_reducible refine Ends.mk ?_))
      all_goals first | exact ⟨rfl, rfl⟩ | (exfalso; simp_all; done) | (exfalso; omega)
    · refine can_of_W known mix Tryd.func11 (by kernel_rfl) ok_law07_EtherBack (Nat.le_of_ble_eq_true rfl) ?_
      repeat' ((conv => whnf); first
    | ((with_reducible refine Look.mk ?_); refine ⟨_, rfl, ?_⟩)
    | ((with_reducible refine LookN.zeros ?_))
    | ((with_reducible refine LookN.bytes ?_ ?_); (simp; done))
    | ((with_reducible refine BytesW.bytes ?_))
    | ((with_reducible refine Look.byte ?_ ?_); omega)
    | ((with_reducible refine Look.setb ?_ ?_ ?_); exact bv8_bd _; omega)
    | ((with_reducible refine LookN.setb ?_ ?_ ?_); exact bv8_bd _; omega)
    | ((with_reducible refine LookN.mk ?_); refine ⟨_, rfl, ?_⟩)
    | ((with_reducible refine Need.mk ?_ ?_); first | ((with_reducible refine needB ?_); kernel_rfl) | with_reducible rfl | omega | (with_reducible refine ⟨rfl, ?_⟩; focus omega) | (simp only [ByteArray.size_append, size_lit, List.size_toArray, List.length_cons, List.length_nil, Sp.ofB_size, ByteArray.size_extract, hdr7_size, enc7_size, zer_size, List.length_replicate]; omega) | exact rfl | trivial | exact Nat.le_of_ble_eq_true rfl | (exact ⟨rfl, by omega⟩) | (intro h; first | rfl | cases h) | (simp only [lenS_text, lenS_setN, lenS_zeros]; omega))
    | ((with_reducible refine BytesW.mk ?_); refine ⟨_, rfl, ?_⟩)
    | (with_reducible refine CallW.det (alive_det hG h7 htz) ?_)
    | (with_reducible refine CallW.det (long_det _ _ _ _) ?_)
    | (with_reducible refine CallW.det (enc_det _ _ _ _ (by omega) (by omega) (by omega) (by omega)) ?_)
    | (with_reducible refine CallW.det (dec_det _ (by omega)) ?_)
    | ((with_reducible refine WrT.same ?_ ?_); focus (repeat (first | exact trivial | ((conv => whnf); refine ⟨rfl, ?_⟩))))
    | (with_reducible refine WrT.all ?_)
    | ((with_reducible refine Test.tmodEqT ?_ ?_ ?_); omega; focus first | omega | assumption)
    | ((with_reducible refine Test.tmodEqF ?_ ?_ ?_); omega; focus first | omega | assumption)
    | ((with_reducible refine Test.tmodNeT ?_ ?_ ?_); omega; focus first | omega | assumption)
    | ((with_reducible refine Test.tmodNeF ?_ ?_ ?_); omega; focus first | omega | assumption)
    | ((with_reducible refine Test.tmodEq ?_ (fun h => ?_) (fun h => ?_)); omega)
    | ((with_reducible refine Test.tmodNe ?_ (fun h => ?_) (fun h => ?_)); omega)
    | ((with_reducible refine Test.notT ?_ ?_); focus assumption)
    | ((with_reducible refine Test.notF ?_ ?_); focus assumption)
    | (with_reducible refine Test.notIe (fun h => ?_) (fun h => ?_))
    | (with_reducible refine Test.notD (fun h => ?_) (fun h => ?_))
    | ((with_reducible refine Test.empty (fun h => ?_) (fun h => ?_)))
    | (with_reducible refine Test.tt ?_)
    | (with_reducible refine Test.ff ?_)
    | ((with_reducible refine Test.dt ?_ ?_); omega)
    | ((with_reducible refine Test.df ?_ ?_); omega)
    | (with_reducible refine Test.d (fun h => ?_) (fun h => ?_))
    | ((with_reducible refine Test.ieT ?_ ?_); omega)
    | ((with_reducible refine Test.ieF ?_ ?_); omega)
    | ((with_reducible refine Test.neT ?_ ?_); omega)
    | ((with_reducible refine Test.neF ?_ ?_); omega)
    | (with_reducible refine Test.ie (fun h => ?_) (fun h => ?_))
    | (with_reducible refine Test.ne (fun h => ?_) (fun h => ?_))
    | ((with_reducible refine Test.b ?_ ?_); (focus first | assumption | (simp [negB]; done) | exact rfl | (exact app_first _ _) | (simp only [Int.toNat_natCast, a2, a3]; simp [zer]; done)))
    | ((with_reducible refine Test.nb ?_ ?_); (focus first | assumption | (simp [negB]; done) | exact rfl | (exact app_first _ _) | (simp only [Int.toNat_natCast, a2, a3]; simp [zer]; done)))
    | (with_reducible refine Test.notS (fun h => ?_) (fun h => ?_))
    | (with_reducible refine Test.mk (fun h => ?_) (fun h => ?_))
    | ((with_reducible refine Arith.andu64_1 ?_ ?_); omega)
    | ((with_reducible refine Arith.m48 ?_ ?_); omega)
    | ((with_reducible refine Arith.tdiv ?_ ?_); omega)
    | (with_reducible refine Arith.bv8 ?_)
    | (with_reducible refine Arith.bv16 ?_)
    | (with_reducible refine Arith.bv32 ?_)
    | (with_reducible refine Arith.bv64 ?_)
    | ((with_reducible refine Arith.i64 ?_ ?_); omega)
    | ((with_reducible refine Arith.u64 ?_ ?_); omega)
    | ((with_reducible refine Arith.u32 ?_ ?_); omega)
    | ((with_reducible refine Arith.u16 ?_ ?_); omega)
    | ((with_reducible refine Arith.u8 ?_ ?_); omega)
    | ((with_reducible refine Arith.i32 ?_ ?_); omega)
    | ((with_reducible refine Arith.i64 ?_ ?_); simp (discharger := omega) only [Int.tdiv_eq_ediv_of_nonneg, shr_u8_4, shl_u8_4, shr_u16_4, shl_u16_4, shr_u16_8, shl_u16_8, shr_u32_4, shl_u32_4, shr_u32_8, shl_u32_8, shr_u32_16, shl_u32_16, shr_u32_24, shl_u32_24, shr_u64_4, shl_u64_4, shr_u64_8, shl_u64_8, shr_u64_16, shl_u64_16, shr_u64_24, shl_u64_24, shr_u64_40, shl_u64_40, shr_i64_4, shl_i64_4, shr_i64_8, shl_i64_8, shr_i64_16, shl_i64_16, shr_i64_24, shl_i64_24, shr_i64_40, shl_i64_40]; omega)
    | ((with_reducible refine Arith.u64 ?_ ?_); simp (discharger := omega) only [Int.tdiv_eq_ediv_of_nonneg, shr_u8_4, shl_u8_4, shr_u16_4, shl_u16_4, shr_u16_8, shl_u16_8, shr_u32_4, shl_u32_4, shr_u32_8, shl_u32_8, shr_u32_16, shl_u32_16, shr_u32_24, shl_u32_24, shr_u64_4, shl_u64_4, shr_u64_8, shl_u64_8, shr_u64_16, shl_u64_16, shr_u64_24, shl_u64_24, shr_u64_40, shl_u64_40, shr_i64_4, shl_i64_4, shr_i64_8, shl_i64_8, shr_i64_16, shl_i64_16, shr_i64_24, shl_i64_24, shr_i64_40, shl_i64_40]; omega)
    | ((with_reducible refine Arith.u32 ?_ ?_); simp (discharger := omega) only [Int.tdiv_eq_ediv_of_nonneg, shr_u8_4, shl_u8_4, shr_u16_4, shl_u16_4, shr_u16_8, shl_u16_8, shr_u32_4, shl_u32_4, shr_u32_8, shl_u32_8, shr_u32_16, shl_u32_16, shr_u32_24, shl_u32_24, shr_u64_4, shl_u64_4, shr_u64_8, shl_u64_8, shr_u64_16, shl_u64_16, shr_u64_24, shl_u64_24, shr_u64_40, shl_u64_40, shr_i64_4, shl_i64_4, shr_i64_8, shl_i64_8, shr_i64_16, shl_i64_16, shr_i64_24, shl_i64_24, shr_i64_40, shl_i64_40]; omega)
    | ((with_reducible refine Arith.u16 ?_ ?_); simp (discharger := omega) only [Int.tdiv_eq_ediv_of_nonneg, shr_u8_4, shl_u8_4, shr_u16_4, shl_u16_4, shr_u16_8, shl_u16_8, shr_u32_4, shl_u32_4, shr_u32_8, shl_u32_8, shr_u32_16, shl_u32_16, shr_u32_24, shl_u32_24, shr_u64_4, shl_u64_4, shr_u64_8, shl_u64_8, shr_u64_16, shl_u64_16, shr_u64_24, shl_u64_24, shr_u64_40, shl_u64_40, shr_i64_4, shl_i64_4, shr_i64_8, shl_i64_8, shr_i64_16, shl_i64_16, shr_i64_24, shl_i64_24, shr_i64_40, shl_i64_40]; omega)
    | ((with_reducible refine Arith.u8 ?_ ?_); simp (discharger := omega) only [Int.tdiv_eq_ediv_of_nonneg, shr_u8_4, shl_u8_4, shr_u16_4, shl_u16_4, shr_u16_8, shl_u16_8, shr_u32_4, shl_u32_4, shr_u32_8, shl_u32_8, shr_u32_16, shl_u32_16, shr_u32_24, shl_u32_24, shr_u64_4, shl_u64_4, shr_u64_8, shl_u64_8, shr_u64_16, shl_u64_16, shr_u64_24, shl_u64_24, shr_u64_40, shl_u64_40, shr_i64_4, shl_i64_4, shr_i64_8, shl_i64_8, shr_i64_16, shl_i64_16, shr_i64_24, shl_i64_24, shr_i64_40, shl_i64_40]; omega)
    | (with_reducible refine Arith.mk ?_)
    | (with_reducible refine Ends.mk ?_))
      all_goals first | exact ⟨rfl, rfl⟩ | (exfalso; simp_all; done) | (exfalso; omega)

end G4
end Go.Proofs.YtnikpanebkknfaaDoor.VM
