/- law 14 by the evaluator: the laws. -/
import Derived.Test.YtnmeeafnobfobaaP14
namespace Go.Proofs.Ytnmeeafnobfobaa.VM
namespace G2
open Go.RowKit
set_option linter.unusedVariables false
set_option linter.unusedSimpArgs false
set_option maxRecDepth 100000
def vf_law14_IcmpTells : VFn := ⟨(.seq (.reg [
    ⟨(some 2), .box (.t 0), none, 0⟩,
    ⟨(some 4), .mv (.c (.p (.o (.bool false)))), none, 1⟩] 1 none) (.seq (.seq (.reg [
    ⟨(some 13), .fad 3 (.t 2), none, 0⟩,
    ⟨(some 14), .ld none (.t 13), none, 0⟩,
    ⟨(some 15), .len false (.t 14), none, 0⟩,
    ⟨(some 16), .bin .gtr (.t 15) (.c (.p (.o (.int .i64 131072)))), none, 0⟩,
    ⟨(some 17), .mv (.t 16), none, 0⟩,
    ⟨(some 18), .mv (.t 1), (some (17, false)), 0⟩,
    ⟨(some 19), .len false (.t 18), (some (17, false)), 0⟩,
    ⟨(some 20), .bin .gtr (.t 19) (.c (.p (.o (.int .i64 131072)))), (some (17, false)), 0⟩,
    ⟨(some 21), .pick (.t 17) (.c (.p (.o (.bool true)))) (.t 20), none, 0⟩] 0 none) (.cond (.t 21) (.seq (.reg [
    ⟨(some 22), .call 14 [] 0, none, 0⟩,
    ⟨(some 4), .mv (.t 22), none, 0⟩] 0 none) .ret) .skip)) (.seq (.reg [
    ⟨(some 24), .ld (some 4) (.t 2), none, 0⟩,
    ⟨(some 25), .call 15 [(.t 24)] 0, none, 0⟩,
    ⟨(some 23), .mv (.t 25), none, 0⟩,
    ⟨(some 26), .ext 0 (.t 23), none, 0⟩,
    ⟨(some 27), .ext 1 (.t 23), none, 0⟩,
    ⟨(some 5), .mv (.t 26), none, 0⟩,
    ⟨(some 6), .mv (.t 27), none, 0⟩] 0 none) (.seq (.reg [
    ⟨(some 29), .ld (some 4) (.t 2), none, 0⟩,
    ⟨(some 30), .call 16 [(.t 29)] 0, none, 0⟩,
    ⟨(some 28), .mv (.t 30), none, 0⟩,
    ⟨(some 31), .ext 0 (.t 28), none, 0⟩,
    ⟨(some 32), .ext 1 (.t 28), none, 0⟩,
    ⟨(some 7), .mv (.t 31), none, 0⟩,
    ⟨(some 8), .mv (.t 32), none, 0⟩] 0 none) (.seq (.reg [
    ⟨(some 34), .mv (.t 1), none, 0⟩,
    ⟨(some 35), .call 17 [(.t 34)] 0, none, 0⟩,
    ⟨(some 33), .mv (.t 35), none, 0⟩,
    ⟨(some 36), .ext 0 (.t 33), none, 0⟩,
    ⟨(some 37), .ext 1 (.t 33), none, 0⟩,
    ⟨(some 9), .new [.int .u8 0, .int .u8 0, .int .u32 0, .str ⟨#[]⟩], none, 0⟩,
    ⟨none, .st 4 (.t 9) (.t 36), none, 1⟩,
    ⟨(some 10), .mv (.t 37), none, 1⟩] 1 none) (.seq (.reg [
    ⟨(some 39), .mv (.t 1), none, 0⟩,
    ⟨(some 40), .call 18 [(.t 39)] 0, none, 0⟩,
    ⟨(some 38), .mv (.t 40), none, 0⟩,
    ⟨(some 41), .ext 0 (.t 38), none, 0⟩,
    ⟨(some 42), .ext 1 (.t 38), none, 0⟩,
    ⟨(some 11), .new [.int .u8 0, .int .u8 0, .int .u32 0, .str ⟨#[]⟩], none, 0⟩,
    ⟨none, .st 4 (.t 11) (.t 41), none, 1⟩,
    ⟨(some 12), .mv (.t 42), none, 1⟩] 1 none) (.seq (.reg [
    ⟨(some 43), .mv (.t 5), none, 0⟩,
    ⟨(some 44), .mv (.t 7), none, 0⟩,
    ⟨(some 45), .bin .eql (.t 43) (.t 44), none, 0⟩,
    ⟨(some 46), .mv (.t 45), none, 0⟩,
    ⟨(some 47), .mv (.t 6), (some (46, true)), 0⟩,
    ⟨(some 48), .mv (.t 8), (some (46, true)), 0⟩,
    ⟨(some 49), .bin .eql (.t 47) (.t 48), (some (46, true)), 0⟩,
    ⟨(some 50), .pick (.t 46) (.t 49) (.c (.p (.o (.bool false)))), none, 0⟩,
    ⟨(some 51), .mv (.t 50), none, 0⟩,
    ⟨(some 52), .ld (some 4) (.t 9), (some (51, true)), 0⟩,
    ⟨(some 53), .ld (some 4) (.t 11), (some (51, true)), 0⟩,
    ⟨(some 54), .eq (.flat [.int .u8, .int .u8, .int .u32, .str]) false (.t 52) (.t 53), (some (51, true)), 0⟩,
    ⟨(some 55), .pick (.t 51) (.t 54) (.c (.p (.o (.bool false)))), none, 0⟩,
    ⟨(some 56), .mv (.t 55), none, 0⟩,
    ⟨(some 57), .mv (.t 10), (some (56, true)), 0⟩,
    ⟨(some 58), .mv (.t 12), (some (56, true)), 0⟩,
    ⟨(some 59), .bin .eql (.t 57) (.t 58), (some (56, true)), 0⟩,
    ⟨(some 60), .pick (.t 56) (.t 59) (.c (.p (.o (.bool false)))), none, 0⟩,
    ⟨(some 61), .mv (.t 60), none, 0⟩,
    ⟨(some 62), .call 14 [] 0, (some (61, true)), 0⟩,
    ⟨(some 63), .pick (.t 61) (.t 62) (.c (.p (.o (.bool false)))), none, 0⟩,
    ⟨(some 4), .mv (.t 63), none, 0⟩] 0 none) .ret))))))),
  [.tmp 4], 64, [0, 1, 2, 4, 5, 6, 7, 8, 9, 10, 11, 12]⟩
theorem ok_law14_IcmpTells : cFn Try.prog eqsT newsT vf_law14_IcmpTells.keep Try.f3 = some vf_law14_IcmpTells := by kernel_rfl
def vf_law14_IcmpErrors : VFn := ⟨(.seq (.reg [
    ⟨(some 5), .box (.t 0), none, 0⟩,
    ⟨(some 10), .mv (.c (.p (.o (.bool false)))), none, 1⟩] 1 none) (.seq (.seq (.reg [
    ⟨(some 25), .fad 3 (.t 5), none, 0⟩,
    ⟨(some 26), .ld none (.t 25), none, 0⟩,
    ⟨(some 27), .len false (.t 26), none, 0⟩,
    ⟨(some 28), .bin .gtr (.t 27) (.c (.p (.o (.int .i64 4096)))), none, 0⟩,
    ⟨(some 29), .mv (.t 28), none, 0⟩,
    ⟨(some 30), .mv (.t 4), (some (29, false)), 0⟩,
    ⟨(some 31), .len false (.t 30), (some (29, false)), 0⟩,
    ⟨(some 32), .bin .gtr (.t 31) (.c (.p (.o (.int .i64 131072)))), (some (29, false)), 0⟩,
    ⟨(some 33), .pick (.t 29) (.c (.p (.o (.bool true)))) (.t 32), none, 0⟩] 0 none) (.cond (.t 33) (.seq (.reg [
    ⟨(some 34), .call 14 [] 0, none, 0⟩,
    ⟨(some 10), .mv (.t 34), none, 0⟩] 0 none) .ret) .skip)) (.seq (.reg [
    ⟨(some 36), .ld (some 4) (.t 5), none, 0⟩,
    ⟨(some 37), .call 19 [(.t 36)] 0, none, 0⟩,
    ⟨(some 35), .mv (.t 37), none, 0⟩,
    ⟨(some 38), .ext 0 (.t 35), none, 0⟩,
    ⟨(some 39), .ext 1 (.t 35), none, 0⟩,
    ⟨(some 11), .new [.int .u8 0, .int .u8 0, .int .u32 0, .str ⟨#[]⟩], none, 0⟩,
    ⟨none, .st 4 (.t 11) (.t 38), none, 1⟩,
    ⟨(some 12), .mv (.t 39), none, 1⟩] 1 none) (.seq (.reg [
    ⟨(some 41), .ld (some 4) (.t 5), none, 0⟩,
    ⟨(some 42), .call 20 [(.t 41)] 0, none, 0⟩,
    ⟨(some 40), .mv (.t 42), none, 0⟩,
    ⟨(some 43), .ext 0 (.t 40), none, 0⟩,
    ⟨(some 44), .ext 1 (.t 40), none, 0⟩,
    ⟨(some 13), .new [.int .u8 0, .int .u8 0, .int .u32 0, .str ⟨#[]⟩], none, 0⟩,
    ⟨none, .st 4 (.t 13) (.t 43), none, 1⟩,
    ⟨(some 14), .mv (.t 44), none, 1⟩] 1 none) (.seq (.reg [
    ⟨(some 46), .mv (.t 1), none, 0⟩,
    ⟨(some 47), .mv (.t 2), none, 0⟩,
    ⟨(some 48), .mv (.t 3), none, 0⟩,
    ⟨(some 49), .mv (.t 4), none, 0⟩,
    ⟨(some 50), .call 21 [(.t 46), (.t 47), (.t 48), (.t 49)] 0, none, 0⟩,
    ⟨(some 45), .mv (.t 50), none, 0⟩,
    ⟨(some 51), .ext 0 (.t 45), none, 0⟩,
    ⟨(some 52), .ext 1 (.t 45), none, 0⟩,
    ⟨(some 15), .new [.int .u8 0, .int .u8 0, .int .u32 0, .str ⟨#[]⟩], none, 0⟩,
    ⟨none, .st 4 (.t 15) (.t 51), none, 1⟩,
    ⟨(some 16), .mv (.t 52), none, 1⟩] 1 none) (.seq (.reg [
    ⟨(some 54), .mv (.t 1), none, 0⟩,
    ⟨(some 55), .mv (.t 2), none, 0⟩,
    ⟨(some 56), .mv (.t 3), none, 0⟩,
    ⟨(some 57), .mv (.t 4), none, 0⟩,
    ⟨(some 58), .call 22 [(.t 54), (.t 55), (.t 56), (.t 57)] 0, none, 0⟩,
    ⟨(some 53), .mv (.t 58), none, 0⟩,
    ⟨(some 59), .ext 0 (.t 53), none, 0⟩,
    ⟨(some 60), .ext 1 (.t 53), none, 0⟩,
    ⟨(some 17), .new [.int .u8 0, .int .u8 0, .int .u32 0, .str ⟨#[]⟩], none, 0⟩,
    ⟨none, .st 4 (.t 17) (.t 59), none, 1⟩,
    ⟨(some 18), .mv (.t 60), none, 1⟩] 1 none) (.seq (.reg [
    ⟨(some 62), .ld (some 4) (.t 5), none, 0⟩,
    ⟨(some 63), .call 23 [(.t 62)] 0, none, 0⟩,
    ⟨(some 61), .mv (.t 63), none, 0⟩,
    ⟨(some 64), .ext 0 (.t 61), none, 0⟩,
    ⟨(some 65), .ext 1 (.t 61), none, 0⟩,
    ⟨(some 66), .ext 2 (.t 61), none, 0⟩,
    ⟨(some 19), .new [.int .u8 0, .int .u16 0, .bool false, .bool false, .int .i64 0, .int .u8 0, .int .u8 0, .int .u32 0, .int .u32 0, .str ⟨#[]⟩], none, 0⟩,
    ⟨none, .st 10 (.t 19) (.t 64), none, 1⟩,
    ⟨(some 20), .mv (.t 65), none, 1⟩,
    ⟨(some 21), .mv (.t 66), none, 1⟩] 1 none) (.seq (.reg [
    ⟨(some 68), .ld (some 4) (.t 5), none, 0⟩,
    ⟨(some 69), .call 24 [(.t 68)] 0, none, 0⟩,
    ⟨(some 67), .mv (.t 69), none, 0⟩,
    ⟨(some 70), .ext 0 (.t 67), none, 0⟩,
    ⟨(some 71), .ext 1 (.t 67), none, 0⟩,
    ⟨(some 72), .ext 2 (.t 67), none, 0⟩,
    ⟨(some 22), .new [.int .u8 0, .int .u16 0, .bool false, .bool false, .int .i64 0, .int .u8 0, .int .u8 0, .int .u32 0, .int .u32 0, .str ⟨#[]⟩], none, 0⟩,
    ⟨none, .st 10 (.t 22) (.t 70), none, 1⟩,
    ⟨(some 23), .mv (.t 71), none, 1⟩,
    ⟨(some 24), .mv (.t 72), none, 1⟩] 1 none) (.seq (.reg [
    ⟨(some 73), .ld (some 4) (.t 11), none, 0⟩,
    ⟨(some 74), .ld (some 4) (.t 13), none, 0⟩,
    ⟨(some 75), .eq (.flat [.int .u8, .int .u8, .int .u32, .str]) false (.t 73) (.t 74), none, 0⟩,
    ⟨(some 76), .mv (.t 75), none, 0⟩,
    ⟨(some 77), .mv (.t 12), (some (76, true)), 0⟩,
    ⟨(some 78), .mv (.t 14), (some (76, true)), 0⟩,
    ⟨(some 79), .eq .bool false (.t 77) (.t 78), (some (76, true)), 0⟩,
    ⟨(some 80), .pick (.t 76) (.t 79) (.c (.p (.o (.bool false)))), none, 0⟩,
    ⟨(some 81), .mv (.t 80), none, 0⟩,
    ⟨(some 82), .ld (some 4) (.t 15), (some (81, true)), 0⟩,
    ⟨(some 83), .ld (some 4) (.t 17), (some (81, true)), 0⟩,
    ⟨(some 84), .eq (.flat [.int .u8, .int .u8, .int .u32, .str]) false (.t 82) (.t 83), (some (81, true)), 0⟩,
    ⟨(some 85), .pick (.t 81) (.t 84) (.c (.p (.o (.bool false)))), none, 0⟩,
    ⟨(some 86), .mv (.t 85), none, 0⟩,
    ⟨(some 87), .mv (.t 16), (some (86, true)), 0⟩,
    ⟨(some 88), .mv (.t 18), (some (86, true)), 0⟩,
    ⟨(some 89), .eq .bool false (.t 87) (.t 88), (some (86, true)), 0⟩,
    ⟨(some 90), .pick (.t 86) (.t 89) (.c (.p (.o (.bool false)))), none, 0⟩,
    ⟨(some 91), .mv (.t 90), none, 0⟩,
    ⟨(some 92), .ld (some 10) (.t 19), (some (91, true)), 0⟩,
    ⟨(some 93), .ld (some 10) (.t 22), (some (91, true)), 0⟩,
    ⟨(some 94), .eq (.flat [.int .u8, .int .u16, .bool, .bool, .int .i64, .int .u8, .int .u8, .int .u32, .int .u32, .str]) false (.t 92) (.t 93), (some (91, true)), 0⟩,
    ⟨(some 95), .pick (.t 91) (.t 94) (.c (.p (.o (.bool false)))), none, 0⟩,
    ⟨(some 96), .mv (.t 95), none, 0⟩,
    ⟨(some 97), .mv (.t 20), (some (96, true)), 0⟩,
    ⟨(some 98), .mv (.t 23), (some (96, true)), 0⟩,
    ⟨(some 99), .bin .eql (.t 97) (.t 98), (some (96, true)), 0⟩,
    ⟨(some 100), .pick (.t 96) (.t 99) (.c (.p (.o (.bool false)))), none, 0⟩,
    ⟨(some 101), .mv (.t 100), none, 0⟩,
    ⟨(some 102), .mv (.t 21), (some (101, true)), 0⟩,
    ⟨(some 103), .mv (.t 24), (some (101, true)), 0⟩,
    ⟨(some 104), .eq .bool false (.t 102) (.t 103), (some (101, true)), 0⟩,
    ⟨(some 105), .pick (.t 101) (.t 104) (.c (.p (.o (.bool false)))), none, 0⟩,
    ⟨(some 106), .mv (.t 105), none, 0⟩,
    ⟨(some 107), .call 14 [] 0, (some (106, true)), 0⟩,
    ⟨(some 108), .pick (.t 106) (.t 107) (.c (.p (.o (.bool false)))), none, 0⟩,
    ⟨(some 10), .mv (.t 108), none, 0⟩] 0 none) .ret))))))))),
  [.tmp 10], 109, [0, 1, 2, 3, 4, 5, 10, 11, 12, 13, 14, 15, 16, 17, 18, 19, 20, 21, 22, 23, 24]⟩
theorem ok_law14_IcmpErrors : cFn Try.prog eqsT newsT vf_law14_IcmpErrors.keep Try.f4 = some vf_law14_IcmpErrors := by kernel_rfl
def vf_law14_IcmpEcho : VFn := ⟨(.seq (.reg [
    ⟨(some 6), .mv (.c (.p (.o (.bool false)))), none, 0⟩] 0 none) (.seq (.seq (.reg [
    ⟨(some 14), .mv (.t 1), none, 0⟩,
    ⟨(some 15), .len false (.t 14), none, 0⟩,
    ⟨(some 16), .bin .gtr (.t 15) (.c (.p (.o (.int .i64 4096)))), none, 0⟩] 0 none) (.cond (.t 16) (.seq (.reg [
    ⟨(some 17), .call 14 [] 0, none, 0⟩,
    ⟨(some 6), .mv (.t 17), none, 0⟩] 0 none) .ret) .skip)) (.seq (.reg [
    ⟨(some 18), .mv (.t 0), none, 0⟩,
    ⟨(some 19), .mv (.t 1), none, 0⟩,
    ⟨(some 20), .bld [.int .u8 0, .int .u8 0, .int .u32 0, .str ⟨#[]⟩] [(0, 1, (.c (.p (.o (.int .u8 8))))), (2, 1, (.t 18)), (3, 1, (.t 19))], none, 0⟩,
    ⟨(some 7), .new [.int .u8 0, .int .u8 0, .int .u32 0, .str ⟨#[]⟩], none, 0⟩,
    ⟨none, .st 4 (.t 7) (.t 20), none, 1⟩] 1 none) (.seq (.reg [
    ⟨(some 22), .ld (some 4) (.t 7), none, 0⟩,
    ⟨(some 23), .call 19 [(.t 22)] 0, none, 0⟩,
    ⟨(some 21), .mv (.t 23), none, 0⟩,
    ⟨(some 24), .ext 0 (.t 21), none, 0⟩,
    ⟨(some 25), .ext 1 (.t 21), none, 0⟩,
    ⟨(some 8), .new [.int .u8 0, .int .u8 0, .int .u32 0, .str ⟨#[]⟩], none, 0⟩,
    ⟨none, .st 4 (.t 8) (.t 24), none, 1⟩,
    ⟨(some 9), .mv (.t 25), none, 1⟩] 1 none) (.seq (.reg [
    ⟨(some 27), .ld (some 4) (.t 8), none, 0⟩,
    ⟨(some 28), .call 19 [(.t 27)] 0, none, 0⟩,
    ⟨(some 26), .mv (.t 28), none, 0⟩,
    ⟨(some 29), .ext 0 (.t 26), none, 0⟩,
    ⟨(some 30), .ext 1 (.t 26), none, 0⟩,
    ⟨(some 10), .new [.int .u8 0, .int .u8 0, .int .u32 0, .str ⟨#[]⟩], none, 0⟩,
    ⟨none, .st 4 (.t 10) (.t 29), none, 1⟩,
    ⟨(some 11), .mv (.t 30), none, 1⟩] 1 none) (.seq (.reg [
    ⟨(some 31), .mv (.t 2), none, 0⟩,
    ⟨(some 32), .fad 1 (.t 7), none, 0⟩,
    ⟨none, .st 1 (.t 32) (.t 31), none, 0⟩] 0 none) (.seq (.reg [
    ⟨(some 34), .ld (some 4) (.t 7), none, 0⟩,
    ⟨(some 35), .call 19 [(.t 34)] 0, none, 0⟩,
    ⟨(some 33), .mv (.t 35), none, 0⟩,
    ⟨(some 36), .ext 0 (.t 33), none, 0⟩,
    ⟨(some 37), .ext 1 (.t 33), none, 0⟩,
    ⟨(some 12), .new [.int .u8 0, .int .u8 0, .int .u32 0, .str ⟨#[]⟩], none, 0⟩,
    ⟨none, .st 4 (.t 12) (.t 36), none, 1⟩,
    ⟨(some 13), .mv (.t 37), none, 1⟩] 1 none) (.seq (.reg [
    ⟨(some 38), .mv (.t 9), none, 0⟩,
    ⟨(some 39), .mv (.t 38), none, 0⟩,
    ⟨(some 40), .fad 2 (.t 8), (some (39, true)), 0⟩,
    ⟨(some 41), .ld none (.t 40), (some (39, true)), 0⟩,
    ⟨(some 42), .mv (.t 0), (some (39, true)), 0⟩,
    ⟨(some 43), .bin .eql (.t 41) (.t 42), (some (39, true)), 0⟩,
    ⟨(some 44), .pick (.t 39) (.t 43) (.c (.p (.o (.bool false)))), none, 0⟩,
    ⟨(some 45), .mv (.t 44), none, 0⟩,
    ⟨(some 46), .fad 3 (.t 8), (some (45, true)), 0⟩,
    ⟨(some 47), .ld none (.t 46), (some (45, true)), 0⟩,
    ⟨(some 48), .mv (.t 1), (some (45, true)), 0⟩,
    ⟨(some 49), .bin .eql (.t 47) (.t 48), (some (45, true)), 0⟩,
    ⟨(some 50), .pick (.t 45) (.t 49) (.c (.p (.o (.bool false)))), none, 0⟩,
    ⟨(some 51), .mv (.t 50), none, 0⟩,
    ⟨(some 52), .fad 0 (.t 8), (some (51, true)), 0⟩,
    ⟨(some 53), .ld none (.t 52), (some (51, true)), 0⟩,
    ⟨(some 54), .bin .eql (.t 53) (.c (.p (.o (.int .u8 0)))), (some (51, true)), 0⟩,
    ⟨(some 55), .pick (.t 51) (.t 54) (.c (.p (.o (.bool false)))), none, 0⟩,
    ⟨(some 56), .mv (.t 55), none, 0⟩,
    ⟨(some 57), .mv (.t 11), (some (56, true)), 0⟩,
    ⟨(some 58), .un .not (.t 57), (some (56, true)), 0⟩,
    ⟨(some 59), .pick (.t 56) (.t 58) (.c (.p (.o (.bool false)))), none, 0⟩,
    ⟨(some 60), .mv (.t 59), none, 0⟩,
    ⟨(some 61), .mv (.t 13), (some (60, true)), 0⟩,
    ⟨(some 62), .mv (.t 2), (some (60, true)), 0⟩,
    ⟨(some 63), .bin .eql (.t 62) (.c (.p (.o (.int .u8 0)))), (some (60, true)), 0⟩,
    ⟨(some 64), .eq .bool false (.t 61) (.t 63), (some (60, true)), 0⟩,
    ⟨(some 65), .pick (.t 60) (.t 64) (.c (.p (.o (.bool false)))), none, 0⟩,
    ⟨(some 66), .mv (.t 65), none, 0⟩,
    ⟨(some 67), .call 14 [] 0, (some (66, true)), 0⟩,
    ⟨(some 68), .pick (.t 66) (.t 67) (.c (.p (.o (.bool false)))), none, 0⟩,
    ⟨(some 6), .mv (.t 68), none, 0⟩] 0 none) .ret)))))))),
  [.tmp 6], 69, [0, 1, 2, 6, 7, 8, 9, 11, 13]⟩
theorem ok_law14_IcmpEcho : cFn Try.prog eqsT newsT vf_law14_IcmpEcho.keep Try.f7 = some vf_law14_IcmpEcho := by kernel_rfl
def vf_law14_IcmpBack : VFn := ⟨(.seq (.reg [
    ⟨(some 5), .box (.t 0), none, 0⟩,
    ⟨(some 6), .box (.t 1), none, 1⟩,
    ⟨(some 10), .mv (.c (.p (.o (.bool false)))), none, 2⟩] 2 none) (.seq (.seq (.reg [
    ⟨(some 24), .fad 3 (.t 5), none, 0⟩,
    ⟨(some 25), .ld none (.t 24), none, 0⟩,
    ⟨(some 26), .len false (.t 25), none, 0⟩,
    ⟨(some 27), .bin .gtr (.t 26) (.c (.p (.o (.int .i64 4096)))), none, 0⟩,
    ⟨(some 28), .mv (.t 27), none, 0⟩,
    ⟨(some 29), .fad 3 (.t 6), (some (28, false)), 0⟩,
    ⟨(some 30), .ld none (.t 29), (some (28, false)), 0⟩,
    ⟨(some 31), .len false (.t 30), (some (28, false)), 0⟩,
    ⟨(some 32), .bin .gtr (.t 31) (.c (.p (.o (.int .i64 4096)))), (some (28, false)), 0⟩,
    ⟨(some 33), .pick (.t 28) (.c (.p (.o (.bool true)))) (.t 32), none, 0⟩,
    ⟨(some 34), .mv (.t 33), none, 0⟩,
    ⟨(some 35), .mv (.t 2), (some (34, false)), 0⟩,
    ⟨(some 36), .len false (.t 35), (some (34, false)), 0⟩,
    ⟨(some 37), .bin .gtr (.t 36) (.c (.p (.o (.int .i64 4096)))), (some (34, false)), 0⟩,
    ⟨(some 38), .pick (.t 34) (.c (.p (.o (.bool true)))) (.t 37), none, 0⟩] 0 none) (.cond (.t 38) (.seq (.reg [
    ⟨(some 39), .call 14 [] 0, none, 0⟩,
    ⟨(some 10), .mv (.t 39), none, 0⟩] 0 none) .ret) .skip)) (.seq (.reg [
    ⟨(some 41), .ld (some 4) (.t 5), none, 0⟩,
    ⟨(some 42), .call 15 [(.t 41)] 0, none, 0⟩,
    ⟨(some 40), .mv (.t 42), none, 0⟩,
    ⟨(some 43), .ext 0 (.t 40), none, 0⟩,
    ⟨(some 44), .ext 1 (.t 40), none, 0⟩,
    ⟨(some 11), .mv (.t 43), none, 0⟩,
    ⟨(some 12), .mv (.t 44), none, 0⟩] 0 none) (.seq (.reg [
    ⟨(some 46), .ld (some 4) (.t 6), none, 0⟩,
    ⟨(some 47), .call 15 [(.t 46)] 0, none, 0⟩,
    ⟨(some 45), .mv (.t 47), none, 0⟩,
    ⟨(some 48), .ext 0 (.t 45), none, 0⟩,
    ⟨(some 49), .ext 1 (.t 45), none, 0⟩,
    ⟨(some 13), .mv (.t 48), none, 0⟩,
    ⟨(some 14), .mv (.t 49), none, 0⟩] 0 none) (.seq (.reg [
    ⟨(some 51), .mv (.t 11), none, 0⟩,
    ⟨(some 52), .call 17 [(.t 51)] 0, none, 0⟩,
    ⟨(some 50), .mv (.t 52), none, 0⟩,
    ⟨(some 53), .ext 0 (.t 50), none, 0⟩,
    ⟨(some 54), .ext 1 (.t 50), none, 0⟩,
    ⟨(some 15), .new [.int .u8 0, .int .u8 0, .int .u32 0, .str ⟨#[]⟩], none, 0⟩,
    ⟨none, .st 4 (.t 15) (.t 53), none, 1⟩,
    ⟨(some 16), .mv (.t 54), none, 1⟩] 1 none) (.seq (.seq (.reg [
    ⟨(some 55), .mv (.t 12), none, 0⟩,
    ⟨(some 56), .bin .neq (.t 55) (.c (.p (.o (.int .i64 0)))), none, 0⟩,
    ⟨(some 57), .mv (.t 56), none, 0⟩,
    ⟨(some 58), .mv (.t 14), (some (57, false)), 0⟩,
    ⟨(some 59), .bin .neq (.t 58) (.c (.p (.o (.int .i64 0)))), (some (57, false)), 0⟩,
    ⟨(some 60), .pick (.t 57) (.c (.p (.o (.bool true)))) (.t 59), none, 0⟩,
    ⟨(some 61), .mv (.t 60), none, 0⟩,
    ⟨(some 62), .mv (.t 16), (some (61, false)), 0⟩,
    ⟨(some 63), .bin .neq (.t 62) (.c (.p (.o (.int .i64 0)))), (some (61, false)), 0⟩,
    ⟨(some 64), .pick (.t 61) (.c (.p (.o (.bool true)))) (.t 63), none, 0⟩,
    ⟨(some 65), .mv (.t 64), none, 0⟩,
    ⟨(some 66), .ld (some 4) (.t 15), (some (65, false)), 0⟩,
    ⟨(some 67), .ld (some 4) (.t 5), (some (65, false)), 0⟩,
    ⟨(some 68), .eq (.flat [.int .u8, .int .u8, .int .u32, .str]) true (.t 66) (.t 67), (some (65, false)), 0⟩,
    ⟨(some 69), .pick (.t 65) (.c (.p (.o (.bool true)))) (.t 68), none, 0⟩,
    ⟨(some 70), .mv (.t 69), none, 0⟩,
    ⟨(some 71), .mv (.t 11), (some (70, false)), 0⟩,
    ⟨(some 72), .mv (.t 13), (some (70, false)), 0⟩,
    ⟨(some 73), .bin .eql (.t 71) (.t 72), (some (70, false)), 0⟩,
    ⟨(some 74), .ld (some 4) (.t 5), (some (70, false)), 0⟩,
    ⟨(some 75), .ld (some 4) (.t 6), (some (70, false)), 0⟩,
    ⟨(some 76), .eq (.flat [.int .u8, .int .u8, .int .u32, .str]) false (.t 74) (.t 75), (some (70, false)), 0⟩,
    ⟨(some 77), .eq .bool true (.t 73) (.t 76), (some (70, false)), 0⟩,
    ⟨(some 78), .pick (.t 70) (.c (.p (.o (.bool true)))) (.t 77), none, 0⟩] 0 none) (.cond (.t 78) (.seq (.reg [
    ⟨(some 10), .mv (.c (.p (.o (.bool false)))), none, 0⟩] 0 none) .ret) .skip)) (.seq (.reg [
    ⟨(some 79), .mv (.t 11), none, 0⟩,
    ⟨(some 80), .s2b (.t 79), none, 0⟩,
    ⟨(some 17), .mv (.t 80), none, 1⟩] 1 none) (.seq (.seq (.reg [
    ⟨(some 81), .mv (.t 17), none, 0⟩,
    ⟨(some 82), .len true (.t 81), none, 0⟩,
    ⟨(some 83), .bin .eql (.t 82) (.c (.p (.o (.int .i64 0)))), none, 0⟩] 0 none) (.cond (.t 83) (.seq (.reg [
    ⟨(some 10), .mv (.c (.p (.o (.bool false)))), none, 0⟩] 0 none) .ret) .skip)) (.seq (.reg [
    ⟨(some 84), .mv (.t 17), none, 0⟩,
    ⟨(some 85), .mv (.t 3), none, 0⟩,
    ⟨(some 86), .cvi .i64 (.t 85), none, 0⟩,
    ⟨(some 87), .mv (.t 17), none, 0⟩,
    ⟨(some 88), .len true (.t 87), none, 0⟩,
    ⟨(some 89), .bin .rem (.t 86) (.t 88), none, 0⟩,
    ⟨(some 90), .iad 1 (.t 84) (.t 89), none, 0⟩,
    ⟨(some 91), .ld none (.t 90), none, 0⟩,
    ⟨(some 92), .mv (.t 4), none, 0⟩,
    ⟨(some 93), .bin .xor (.t 91) (.t 92), none, 0⟩,
    ⟨(some 94), .iad 1 (.t 84) (.t 89), none, 0⟩,
    ⟨none, .st 1 (.t 94) (.t 93), none, 0⟩] 0 none) (.seq (.reg [
    ⟨(some 96), .mv (.t 17), none, 0⟩,
    ⟨(some 97), .b2s (.t 96), none, 0⟩,
    ⟨(some 98), .call 17 [(.t 97)] 0, none, 0⟩,
    ⟨(some 95), .mv (.t 98), none, 0⟩,
    ⟨(some 99), .ext 0 (.t 95), none, 0⟩,
    ⟨(some 100), .ext 1 (.t 95), none, 0⟩,
    ⟨(some 18), .new [.int .u8 0, .int .u8 0, .int .u32 0, .str ⟨#[]⟩], none, 0⟩,
    ⟨none, .st 4 (.t 18) (.t 99), none, 1⟩,
    ⟨(some 19), .mv (.t 100), none, 1⟩] 1 none) (.seq (.seq (.reg [
    ⟨(some 101), .mv (.t 19), none, 0⟩,
    ⟨(some 102), .bin .eql (.t 101) (.c (.p (.o (.int .i64 0)))), none, 0⟩,
    ⟨(some 103), .mv (.t 4), none, 0⟩,
    ⟨(some 104), .bin .eql (.t 103) (.c (.p (.o (.int .u8 0)))), none, 0⟩,
    ⟨(some 105), .eq .bool true (.t 102) (.t 104), none, 0⟩,
    ⟨(some 106), .mv (.t 105), none, 0⟩,
    ⟨(some 107), .mv (.t 19), (some (106, false)), 0⟩,
    ⟨(some 108), .bin .neq (.t 107) (.c (.p (.o (.int .i64 0)))), (some (106, false)), 0⟩,
    ⟨(some 109), .mv (.t 108), (some (106, false)), 0⟩,
    ⟨(some 110), .mv (.t 19), (some (109, true)), 0⟩,
    ⟨(some 111), .bin .neq (.t 110) (.c (.p (.o (.int .i64 101)))), (some (109, true)), 0⟩,
    ⟨(some 112), .mv (.t 111), (some (109, true)), 0⟩,
    ⟨(some 113), .ld (some 4) (.t 18), (some (112, false)), 0⟩,
    ⟨(some 114), .bld [.int .u8 0, .int .u8 0, .int .u32 0, .str ⟨#[]⟩] [], (some (112, false)), 0⟩,
    ⟨(some 115), .eq (.flat [.int .u8, .int .u8, .int .u32, .str]) true (.t 113) (.t 114), (some (112, false)), 0⟩,
    ⟨(some 116), .pick (.t 112) (.c (.p (.o (.bool true)))) (.t 115), (some (109, true)), 0⟩,
    ⟨(some 117), .pick (.t 109) (.t 116) (.c (.p (.o (.bool false)))), (some (106, false)), 0⟩,
    ⟨(some 118), .pick (.t 106) (.c (.p (.o (.bool true)))) (.t 117), none, 0⟩] 0 none) (.cond (.t 118) (.seq (.reg [
    ⟨(some 10), .mv (.c (.p (.o (.bool false)))), none, 0⟩] 0 none) .ret) .skip)) (.seq (.reg [
    ⟨(some 120), .mv (.t 2), none, 0⟩,
    ⟨(some 121), .call 17 [(.t 120)] 0, none, 0⟩,
    ⟨(some 119), .mv (.t 121), none, 0⟩,
    ⟨(some 122), .ext 0 (.t 119), none, 0⟩,
    ⟨(some 123), .ext 1 (.t 119), none, 0⟩,
    ⟨(some 20), .new [.int .u8 0, .int .u8 0, .int .u32 0, .str ⟨#[]⟩], none, 0⟩,
    ⟨none, .st 4 (.t 20) (.t 122), none, 1⟩,
    ⟨(some 21), .mv (.t 123), none, 1⟩] 1 none) (.seq (.seq (.reg [
    ⟨(some 124), .mv (.t 21), none, 0⟩,
    ⟨(some 125), .bin .neq (.t 124) (.c (.p (.o (.int .i64 0)))), none, 0⟩] 0 none) (.cond (.t 125) (.seq (.reg [
    ⟨(some 126), .call 14 [] 0, none, 0⟩,
    ⟨(some 10), .mv (.t 126), none, 0⟩] 0 none) .ret) .skip)) (.seq (.reg [
    ⟨(some 128), .ld (some 4) (.t 20), none, 0⟩,
    ⟨(some 129), .call 15 [(.t 128)] 0, none, 0⟩,
    ⟨(some 127), .mv (.t 129), none, 0⟩,
    ⟨(some 130), .ext 0 (.t 127), none, 0⟩,
    ⟨(some 131), .ext 1 (.t 127), none, 0⟩,
    ⟨(some 22), .mv (.t 130), none, 0⟩,
    ⟨(some 23), .mv (.t 131), none, 0⟩] 0 none) (.seq (.reg [
    ⟨(some 132), .mv (.t 23), none, 0⟩,
    ⟨(some 133), .bin .eql (.t 132) (.c (.p (.o (.int .i64 0)))), none, 0⟩,
    ⟨(some 134), .mv (.t 133), none, 0⟩,
    ⟨(some 135), .mv (.t 22), (some (134, true)), 0⟩,
    ⟨(some 136), .len false (.t 135), (some (134, true)), 0⟩,
    ⟨(some 137), .mv (.t 2), (some (134, true)), 0⟩,
    ⟨(some 138), .len false (.t 137), (some (134, true)), 0⟩,
    ⟨(some 139), .bin .eql (.t 136) (.t 138), (some (134, true)), 0⟩,
    ⟨(some 140), .pick (.t 134) (.t 139) (.c (.p (.o (.bool false)))), none, 0⟩,
    ⟨(some 141), .mv (.t 140), none, 0⟩,
    ⟨(some 142), .mv (.t 2), (some (141, true)), 0⟩,
    ⟨(some 143), .len false (.t 142), (some (141, true)), 0⟩,
    ⟨(some 144), .bin .gtr (.t 143) (.c (.p (.o (.int .i64 3)))), (some (141, true)), 0⟩,
    ⟨(some 145), .pick (.t 141) (.t 144) (.c (.p (.o (.bool false)))), none, 0⟩,
    ⟨(some 146), .mv (.t 145), none, 0⟩,
    ⟨(some 147), .mv (.t 22), (some (146, true)), 0⟩,
    ⟨(some 148), .sls (.t 147) none (some (.c (.p (.o (.int .i64 2))))), (some (146, true)), 0⟩,
    ⟨(some 149), .mv (.t 2), (some (146, true)), 0⟩,
    ⟨(some 150), .sls (.t 149) none (some (.c (.p (.o (.int .i64 2))))), (some (146, true)), 0⟩,
    ⟨(some 151), .bin .eql (.t 148) (.t 150), (some (146, true)), 0⟩,
    ⟨(some 152), .pick (.t 146) (.t 151) (.c (.p (.o (.bool false)))), none, 0⟩,
    ⟨(some 153), .mv (.t 152), none, 0⟩,
    ⟨(some 154), .mv (.t 22), (some (153, true)), 0⟩,
    ⟨(some 155), .sls (.t 154) (some (.c (.p (.o (.int .i64 4))))) none, (some (153, true)), 0⟩,
    ⟨(some 156), .mv (.t 2), (some (153, true)), 0⟩,
    ⟨(some 157), .sls (.t 156) (some (.c (.p (.o (.int .i64 4))))) none, (some (153, true)), 0⟩,
    ⟨(some 158), .bin .eql (.t 155) (.t 157), (some (153, true)), 0⟩,
    ⟨(some 159), .pick (.t 153) (.t 158) (.c (.p (.o (.bool false)))), none, 0⟩,
    ⟨(some 160), .mv (.t 159), none, 0⟩,
    ⟨(some 161), .call 14 [] 0, (some (160, true)), 0⟩,
    ⟨(some 162), .pick (.t 160) (.t 161) (.c (.p (.o (.bool false)))), none, 0⟩,
    ⟨(some 10), .mv (.t 162), none, 0⟩] 0 (some [(3, 5), (4, 5), (3, 6), (4, 6), (15, 17), (16, 17), (15, 18), (16, 18), (22, 24), (23, 24), (22, 25), (23, 25)])) .ret))))))))))))))),
  [.tmp 10], 163, [0, 1, 2, 3, 4, 5, 6, 10, 11, 12, 13, 14, 15, 16, 17, 18, 19, 20, 21, 22, 23]⟩
theorem ok_law14_IcmpBack : cFn Try.prog eqsT newsT vf_law14_IcmpBack.keep Try.f5 = some vf_law14_IcmpBack := by kernel_rfl
theorem dec14_form (s : ByteArray) : ∃ ty co w d, dec14 s = msg ty co w d := by
  unfold dec14; split <;> exact ⟨_, _, _, _, rfl⟩
theorem echo14_form (ty co w : Int) (d : ByteArray) : ∃ ty1 co1 w1 d1, echo14 ty co w d = msg ty1 co1 w1 d1 := by
  unfold echo14; split <;> exact ⟨_, _, _, _, rfl⟩
theorem err14_form (kind code w e at_ fr to proto : Int) (p o dat : ByteArray) : ∃ ty1 co1 w1 d1, err14 kind code w e at_ fr to proto p o dat = msg ty1 co1 w1 d1 := by
  unfold err14; split <;> exact ⟨_, _, _, _, rfl⟩
theorem quo14_form (ty : Int) (s : ByteArray) : ∃ tos id hold more at_ ttl proto fr to o, quo14 ty s = hdr tos id hold more at_ ttl proto fr to o := by
  unfold quo14; split <;> exact ⟨_, _, _, _, _, _, _, _, _, _, rfl⟩
set_option maxHeartbeats 4000000 in
theorem tells14 (ty co w : Int) (d s A : ByteArray) (ea ty1 co1 w1 de : Int) (d1 : ByteArray) (hd : (d.size : Int) ≤ 131072) (hs : (s.size : Int) ≤ 131072) (E : Det Try.prog 15 [.a (msg ty co w d)] [] (.t [.o (.str A), .o (.int .i64 ea)]) []) (E1 : Det Try.prog 16 [.a (msg ty co w d)] [] (.t [.o (.str A), .o (.int .i64 ea)]) []) (D : Det Try.prog 17 [.o (.str s)] [] (.t [.a (msg ty1 co1 w1 d1), .o (.int .i64 de)]) []) (D1 : Det Try.prog 18 [.o (.str s)] [] (.t [.a (msg ty1 co1 w1 d1), .o (.int .i64 de)]) []) : Can Try.prog 3 [.a (msg ty co w d), .o (.str s)] [] (fun v _ => v = vB true) := by
  refine can_of_W known mix Try.func3 (by kernel_rfl) ok_law14_IcmpTells (Nat.le_of_ble_eq_true rfl) ?_
  repeat' ((conv => whnf); first
    | ((with_reducible refine Look.mk ?_); refine ⟨_, rfl, ?_⟩)
    | ((with_reducible refine LookN.zeros ?_))
    | ((with_reducible refine LookN.bytes ?_ ?_); (simp; done))
    | ((with_reducible refine BytesW.bytes ?_))
    | ((with_reducible refine Look.byte ?_ ?_); omega)
    | ((with_reducible refine Look.setb ?_ ?_ ?_); exact bv8_bd _; omega)
    | ((with_reducible refine LookN.setb ?_ ?_ ?_); exact bv8_bd _; omega)
    | ((with_reducible refine LookN.mk ?_); refine ⟨_, rfl, ?_⟩)
    | ((with_reducible refine Need.mk ?_ ?_); first | ((with_reducible refine needB ?_); kernel_rfl) | exact rfl | trivial | omega | exact Nat.le_of_ble_eq_true rfl | (exact ⟨rfl, by omega⟩) | (intro h; first | rfl | cases h) | (simp only [lenS_text, lenS_setN, lenS_zeros]; omega) | (simp only [ByteArray.size_append, size_lit, List.size_toArray, List.length_cons, List.length_nil, Sp.ofB_size, ByteArray.size_extract]; omega))
    | ((with_reducible refine BytesW.mk ?_); refine ⟨_, rfl, ?_⟩)
    | (with_reducible refine CallW.det (E) ?_)
    | (with_reducible refine CallW.det (E1) ?_)
    | (with_reducible refine CallW.det (D) ?_)
    | (with_reducible refine CallW.det (D1) ?_)
    | (with_reducible refine CallW.det (alive14_det) ?_)
    | ((with_reducible refine Test.tmodEqT ?_ ?_ ?_); omega; focus omega)
    | ((with_reducible refine Test.tmodEqF ?_ ?_ ?_); omega; focus omega)
    | ((with_reducible refine Test.tmodNeT ?_ ?_ ?_); omega; focus omega)
    | ((with_reducible refine Test.tmodNeF ?_ ?_ ?_); omega; focus omega)
    | ((with_reducible refine Test.tmodEq ?_ (fun h => ?_) (fun h => ?_)); omega)
    | ((with_reducible refine Test.tmodNe ?_ (fun h => ?_) (fun h => ?_)); omega)
    | ((with_reducible refine Test.notT ?_ ?_); focus assumption)
    | ((with_reducible refine Test.notF ?_ ?_); focus assumption)
    | (with_reducible refine Test.notIe (fun h => ?_) (fun h => ?_))
    | (with_reducible refine Test.notD (fun h => ?_) (fun h => ?_))
    | ((with_reducible refine Test.empty (fun h => ?_) (fun h => ?_)))
    | (with_reducible refine Test.tt ?_)
    | (with_reducible refine Test.ff ?_)
    | ((with_reducible refine Test.dt ?_ ?_); omega)
    | ((with_reducible refine Test.df ?_ ?_); omega)
    | (with_reducible refine Test.d (fun h => ?_) (fun h => ?_))
    | ((with_reducible refine Test.ieT ?_ ?_); omega)
    | ((with_reducible refine Test.ieF ?_ ?_); omega)
    | ((with_reducible refine Test.neT ?_ ?_); omega)
    | ((with_reducible refine Test.neF ?_ ?_); omega)
    | (with_reducible refine Test.ie (fun h => ?_) (fun h => ?_))
    | (with_reducible refine Test.ne (fun h => ?_) (fun h => ?_))
    | ((with_reducible refine Test.b ?_ ?_); (focus first | assumption | (simp [negB]; done) | exact rfl))
    | ((with_reducible refine Test.nb ?_ ?_); (focus first | assumption | (simp [negB]; done) | exact rfl))
    | (with_reducible refine Test.notS (fun h => ?_) (fun h => ?_))
    | (with_reducible refine Test.mk (fun h => ?_) (fun h => ?_))
    | ((with_reducible refine Arith.tdiv ?_ ?_); omega)
    | (with_reducible refine Arith.bv8 ?_)
    | (with_reducible refine Arith.bv16 ?_)
    | (with_reducible refine Arith.bv32 ?_)
    | (with_reducible refine Arith.bv64 ?_)
    | ((with_reducible refine Arith.i64 ?_ ?_); omega)
    | ((with_reducible refine Arith.u64 ?_ ?_); omega)
    | ((with_reducible refine Arith.u32 ?_ ?_); omega)
    | ((with_reducible refine Arith.u16 ?_ ?_); omega)
    | ((with_reducible refine Arith.u8 ?_ ?_); omega)
    | ((with_reducible refine Arith.i32 ?_ ?_); omega)
    | ((with_reducible refine Arith.i64 ?_ ?_); simp (discharger := omega) only [Int.tdiv_eq_ediv_of_nonneg, shr_u8_4, shl_u8_4, shr_u16_4, shl_u16_4, shr_u16_8, shl_u16_8, shr_u32_4, shl_u32_4, shr_u32_8, shl_u32_8, shr_u32_16, shl_u32_16, shr_u32_24, shl_u32_24, shr_u64_4, shl_u64_4, shr_u64_8, shl_u64_8, shr_u64_16, shl_u64_16, shr_u64_24, shl_u64_24, shr_u64_40, shl_u64_40, shr_i64_4, shl_i64_4, shr_i64_8, shl_i64_8, shr_i64_16, shl_i64_16, shr_i64_24, shl_i64_24, shr_i64_40, shl_i64_40]; omega)
    | ((with_reducible refine Arith.u64 ?_ ?_); simp (discharger := omega) only [Int.tdiv_eq_ediv_of_nonneg, shr_u8_4, shl_u8_4, shr_u16_4, shl_u16_4, shr_u16_8, shl_u16_8, shr_u32_4, shl_u32_4, shr_u32_8, shl_u32_8, shr_u32_16, shl_u32_16, shr_u32_24, shl_u32_24, shr_u64_4, shl_u64_4, shr_u64_8, shl_u64_8, shr_u64_16, shl_u64_16, shr_u64_24, shl_u64_24, shr_u64_40, shl_u64_40, shr_i64_4, shl_i64_4, shr_i64_8, shl_i64_8, shr_i64_16, shl_i64_16, shr_i64_24, shl_i64_24, shr_i64_40, shl_i64_40]; omega)
    | ((with_reducible refine Arith.u32 ?_ ?_); simp (discharger := omega) only [Int.tdiv_eq_ediv_of_nonneg, shr_u8_4, shl_u8_4, shr_u16_4, shl_u16_4, shr_u16_8, shl_u16_8, shr_u32_4, shl_u32_4, shr_u32_8, shl_u32_8, shr_u32_16, shl_u32_16, shr_u32_24, shl_u32_24, shr_u64_4, shl_u64_4, shr_u64_8, shl_u64_8, shr_u64_16, shl_u64_16, shr_u64_24, shl_u64_24, shr_u64_40, shl_u64_40, shr_i64_4, shl_i64_4, shr_i64_8, shl_i64_8, shr_i64_16, shl_i64_16, shr_i64_24, shl_i64_24, shr_i64_40, shl_i64_40]; omega)
    | ((with_reducible refine Arith.u16 ?_ ?_); simp (discharger := omega) only [Int.tdiv_eq_ediv_of_nonneg, shr_u8_4, shl_u8_4, shr_u16_4, shl_u16_4, shr_u16_8, shl_u16_8, shr_u32_4, shl_u32_4, shr_u32_8, shl_u32_8, shr_u32_16, shl_u32_16, shr_u32_24, shl_u32_24, shr_u64_4, shl_u64_4, shr_u64_8, shl_u64_8, shr_u64_16, shl_u64_16, shr_u64_24, shl_u64_24, shr_u64_40, shl_u64_40, shr_i64_4, shl_i64_4, shr_i64_8, shl_i64_8, shr_i64_16, shl_i64_16, shr_i64_24, shl_i64_24, shr_i64_40, shl_i64_40]; omega)
    | ((with_reducible refine Arith.u8 ?_ ?_); simp (discharger := omega) only [Int.tdiv_eq_ediv_of_nonneg, shr_u8_4, shl_u8_4, shr_u16_4, shl_u16_4, shr_u16_8, shl_u16_8, shr_u32_4, shl_u32_4, shr_u32_8, shl_u32_8, shr_u32_16, shl_u32_16, shr_u32_24, shl_u32_24, shr_u64_4, shl_u64_4, shr_u64_8, shl_u64_8, shr_u64_16, shl_u64_16, shr_u64_24, shl_u64_24, shr_u64_40, shl_u64_40, shr_i64_4, shl_i64_4, shr_i64_8, shl_i64_8, shr_i64_16, shl_i64_16, shr_i64_24, shl_i64_24, shr_i64_40, shl_i64_40]; omega)
    | (with_reducible refine Arith.mk ?_)
    | (with_reducible refine Ends.mk ?_))
  all_goals rfl
set_option maxHeartbeats 1000000 in
theorem tells14_far (ty co w : Int) (d s : ByteArray) (h : ¬ ((d.size : Int) ≤ 131072 ∧ (s.size : Int) ≤ 131072)) : Can Try.prog 3 [.a (msg ty co w d), .o (.str s)] [] (fun v _ => v = vB true) := by
  by_cases h1 : (d.size : Int) ≤ 131072
  · refine can_of_W known mix Try.func3 (by kernel_rfl) ok_law14_IcmpTells (Nat.le_of_ble_eq_true rfl) ?_
    repeat' ((conv => whnf); first
    | ((with_reducible refine Look.mk ?_); refine ⟨_, rfl, ?_⟩)
    | ((with_reducible refine LookN.zeros ?_))
    | ((with_reducible refine LookN.bytes ?_ ?_); (simp; done))
    | ((with_reducible refine BytesW.bytes ?_))
    | ((with_reducible refine Look.byte ?_ ?_); omega)
    | ((with_reducible refine Look.setb ?_ ?_ ?_); exact bv8_bd _; omega)
    | ((with_reducible refine LookN.setb ?_ ?_ ?_); exact bv8_bd _; omega)
    | ((with_reducible refine LookN.mk ?_); refine ⟨_, rfl, ?_⟩)
    | ((with_reducible refine Need.mk ?_ ?_); first | ((with_reducible refine needB ?_); kernel_rfl) | exact rfl | trivial | omega | exact Nat.le_of_ble_eq_true rfl | (exact ⟨rfl, by omega⟩) | (intro h; first | rfl | cases h) | (simp only [lenS_text, lenS_setN, lenS_zeros]; omega) | (simp only [ByteArray.size_append, size_lit, List.size_toArray, List.length_cons, List.length_nil, Sp.ofB_size, ByteArray.size_extract]; omega))
    | ((with_reducible refine BytesW.mk ?_); refine ⟨_, rfl, ?_⟩)
    | (with_reducible refine CallW.det (alive14_det) ?_)
    | ((with_reducible refine Test.tmodEqT ?_ ?_ ?_); omega; focus omega)
    | ((with_reducible refine Test.tmodEqF ?_ ?_ ?_); omega; focus omega)
    | ((with_reducible refine Test.tmodNeT ?_ ?_ ?_); omega; focus omega)
    | ((with_reducible refine Test.tmodNeF ?_ ?_ ?_); omega; focus omega)
    | ((with_reducible refine Test.tmodEq ?_ (fun h => ?_) (fun h => ?_)); omega)
    | ((with_reducible refine Test.tmodNe ?_ (fun h => ?_) (fun h => ?_)); omega)
    | ((with_reducible refine Test.notT ?_ ?_); focus assumption)
    | ((with_reducible refine Test.notF ?_ ?_); focus assumption)
    | (with_reducible refine Test.notIe (fun h => ?_) (fun h => ?_))
    | (with_reducible refine Test.notD (fun h => ?_) (fun h => ?_))
    | ((with_reducible refine Test.empty (fun h => ?_) (fun h => ?_)))
    | (with_reducible refine Test.tt ?_)
    | (with_reducible refine Test.ff ?_)
    | ((with_reducible refine Test.dt ?_ ?_); omega)
    | ((with_reducible refine Test.df ?_ ?_); omega)
    | (with_reducible refine Test.d (fun h => ?_) (fun h => ?_))
    | ((with_reducible refine Test.ieT ?_ ?_); omega)
    | ((with_reducible refine Test.ieF ?_ ?_); omega)
    | ((with_reducible refine Test.neT ?_ ?_); omega)
    | ((with_reducible refine Test.neF ?_ ?_); omega)
    | (with_reducible refine Test.ie (fun h => ?_) (fun h => ?_))
    | (with_reducible refine Test.ne (fun h => ?_) (fun h => ?_))
    | ((with_reducible refine Test.b ?_ ?_); (focus first | assumption | (simp [negB]; done) | exact rfl))
    | ((with_reducible refine Test.nb ?_ ?_); (focus first | assumption | (simp [negB]; done) | exact rfl))
    | (with_reducible refine Test.notS (fun h => ?_) (fun h => ?_))
    | (with_reducible refine Test.mk (fun h => ?_) (fun h => ?_))
    | ((with_reducible refine Arith.tdiv ?_ ?_); omega)
    | (with_reducible refine Arith.bv8 ?_)
    | (with_reducible refine Arith.bv16 ?_)
    | (with_reducible refine Arith.bv32 ?_)
    | (with_reducible refine Arith.bv64 ?_)
    | ((with_reducible refine Arith.i64 ?_ ?_); omega)
    | ((with_reducible refine Arith.u64 ?_ ?_); omega)
    | ((with_reducible refine Arith.u32 ?_ ?_); omega)
    | ((with_reducible refine Arith.u16 ?_ ?_); omega)
    | ((with_reducible refine Arith.u8 ?_ ?_); omega)
    | ((with_reducible refine Arith.i32 ?_ ?_); omega)
    | ((with_reducible refine Arith.i64 ?_ ?_); simp (discharger := omega) only [Int.tdiv_eq_ediv_of_nonneg, shr_u8_4, shl_u8_4, shr_u16_4, shl_u16_4, shr_u16_8, shl_u16_8, shr_u32_4, shl_u32_4, shr_u32_8, shl_u32_8, shr_u32_16, shl_u32_16, shr_u32_24, shl_u32_24, shr_u64_4, shl_u64_4, shr_u64_8, shl_u64_8, shr_u64_16, shl_u64_16, shr_u64_24, shl_u64_24, shr_u64_40, shl_u64_40, shr_i64_4, shl_i64_4, shr_i64_8, shl_i64_8, shr_i64_16, shl_i64_16, shr_i64_24, shl_i64_24, shr_i64_40, shl_i64_40]; omega)
    | ((with_reducible refine Arith.u64 ?_ ?_); simp (discharger := omega) only [Int.tdiv_eq_ediv_of_nonneg, shr_u8_4, shl_u8_4, shr_u16_4, shl_u16_4, shr_u16_8, shl_u16_8, shr_u32_4, shl_u32_4, shr_u32_8, shl_u32_8, shr_u32_16, shl_u32_16, shr_u32_24, shl_u32_24, shr_u64_4, shl_u64_4, shr_u64_8, shl_u64_8, shr_u64_16, shl_u64_16, shr_u64_24, shl_u64_24, shr_u64_40, shl_u64_40, shr_i64_4, shl_i64_4, shr_i64_8, shl_i64_8, shr_i64_16, shl_i64_16, shr_i64_24, shl_i64_24, shr_i64_40, shl_i64_40]; omega)
    | ((with_reducible refine Arith.u32 ?_ ?_); simp (discharger := omega) only [Int.tdiv_eq_ediv_of_nonneg, shr_u8_4, shl_u8_4, shr_u16_4, shl_u16_4, shr_u16_8, shl_u16_8, shr_u32_4, shl_u32_4, shr_u32_8, shl_u32_8, shr_u32_16, shl_u32_16, shr_u32_24, shl_u32_24, shr_u64_4, shl_u64_4, shr_u64_8, shl_u64_8, shr_u64_16, shl_u64_16, shr_u64_24, shl_u64_24, shr_u64_40, shl_u64_40, shr_i64_4, shl_i64_4, shr_i64_8, shl_i64_8, shr_i64_16, shl_i64_16, shr_i64_24, shl_i64_24, shr_i64_40, shl_i64_40]; omega)
    | ((with_reducible refine Arith.u16 ?_ ?_); simp (discharger := omega) only [Int.tdiv_eq_ediv_of_nonneg, shr_u8_4, shl_u8_4, shr_u16_4, shl_u16_4, shr_u16_8, shl_u16_8, shr_u32_4, shl_u32_4, shr_u32_8, shl_u32_8, shr_u32_16, shl_u32_16, shr_u32_24, shl_u32_24, shr_u64_4, shl_u64_4, shr_u64_8, shl_u64_8, shr_u64_16, shl_u64_16, shr_u64_24, shl_u64_24, shr_u64_40, shl_u64_40, shr_i64_4, shl_i64_4, shr_i64_8, shl_i64_8, shr_i64_16, shl_i64_16, shr_i64_24, shl_i64_24, shr_i64_40, shl_i64_40]; omega)
    | ((with_reducible refine Arith.u8 ?_ ?_); simp (discharger := omega) only [Int.tdiv_eq_ediv_of_nonneg, shr_u8_4, shl_u8_4, shr_u16_4, shl_u16_4, shr_u16_8, shl_u16_8, shr_u32_4, shl_u32_4, shr_u32_8, shl_u32_8, shr_u32_16, shl_u32_16, shr_u32_24, shl_u32_24, shr_u64_4, shl_u64_4, shr_u64_8, shl_u64_8, shr_u64_16, shl_u64_16, shr_u64_24, shl_u64_24, shr_u64_40, shl_u64_40, shr_i64_4, shl_i64_4, shr_i64_8, shl_i64_8, shr_i64_16, shl_i64_16, shr_i64_24, shl_i64_24, shr_i64_40, shl_i64_40]; omega)
    | (with_reducible refine Arith.mk ?_)
    | (with_reducible refine Ends.mk ?_))
    all_goals rfl
  · refine can_of_W known mix Try.func3 (by kernel_rfl) ok_law14_IcmpTells (Nat.le_of_ble_eq_true rfl) ?_
    repeat' ((conv => whnf); first
    | ((with_reducible refine Look.mk ?_); refine ⟨_, rfl, ?_⟩)
    | ((with_reducible refine LookN.zeros ?_))
    | ((with_reducible refine LookN.bytes ?_ ?_); (simp; done))
    | ((with_reducible refine BytesW.bytes ?_))
    | ((with_reducible refine Look.byte ?_ ?_); omega)
    | ((with_reducible refine Look.setb ?_ ?_ ?_); exact bv8_bd _; omega)
    | ((with_reducible refine LookN.setb ?_ ?_ ?_); exact bv8_bd _; omega)
    | ((with_reducible refine LookN.mk ?_); refine ⟨_, rfl, ?_⟩)
    | ((with_reducible refine Need.mk ?_ ?_); first | ((with_reducible refine needB ?_); kernel_rfl) | exact rfl | trivial | omega | exact Nat.le_of_ble_eq_true rfl | (exact ⟨rfl, by omega⟩) | (intro h; first | rfl | cases h) | (simp only [lenS_text, lenS_setN, lenS_zeros]; omega) | (simp only [ByteArray.size_append, size_lit, List.size_toArray, List.length_cons, List.length_nil, Sp.ofB_size, ByteArray.size_extract]; omega))
    | ((with_reducible refine BytesW.mk ?_); refine ⟨_, rfl, ?_⟩)
    | (with_reducible refine CallW.det (alive14_det) ?_)
    | ((with_reducible refine Test.tmodEqT ?_ ?_ ?_); omega; focus omega)
    | ((with_reducible refine Test.tmodEqF ?_ ?_ ?_); omega; focus omega)
    | ((with_reducible refine Test.tmodNeT ?_ ?_ ?_); omega; focus omega)
    | ((with_reducible refine Test.tmodNeF ?_ ?_ ?_); omega; focus omega)
    | ((with_reducible refine Test.tmodEq ?_ (fun h => ?_) (fun h => ?_)); omega)
    | ((with_reducible refine Test.tmodNe ?_ (fun h => ?_) (fun h => ?_)); omega)
    | ((with_reducible refine Test.notT ?_ ?_); focus assumption)
    | ((with_reducible refine Test.notF ?_ ?_); focus assumption)
    | (with_reducible refine Test.notIe (fun h => ?_) (fun h => ?_))
    | (with_reducible refine Test.notD (fun h => ?_) (fun h => ?_))
    | ((with_reducible refine Test.empty (fun h => ?_) (fun h => ?_)))
    | (with_reducible refine Test.tt ?_)
    | (with_reducible refine Test.ff ?_)
    | ((with_reducible refine Test.dt ?_ ?_); omega)
    | ((with_reducible refine Test.df ?_ ?_); omega)
    | (with_reducible refine Test.d (fun h => ?_) (fun h => ?_))
    | ((with_reducible refine Test.ieT ?_ ?_); omega)
    | ((with_reducible refine Test.ieF ?_ ?_); omega)
    | ((with_reducible refine Test.neT ?_ ?_); omega)
    | ((with_reducible refine Test.neF ?_ ?_); omega)
    | (with_reducible refine Test.ie (fun h => ?_) (fun h => ?_))
    | (with_reducible refine Test.ne (fun h => ?_) (fun h => ?_))
    | ((with_reducible refine Test.b ?_ ?_); (focus first | assumption | (simp [negB]; done) | exact rfl))
    | ((with_reducible refine Test.nb ?_ ?_); (focus first | assumption | (simp [negB]; done) | exact rfl))
    | (with_reducible refine Test.notS (fun h => ?_) (fun h => ?_))
    | (with_reducible refine Test.mk (fun h => ?_) (fun h => ?_))
    | ((with_reducible refine Arith.tdiv ?_ ?_); omega)
    | (with_reducible refine Arith.bv8 ?_)
    | (with_reducible refine Arith.bv16 ?_)
    | (with_reducible refine Arith.bv32 ?_)
    | (with_reducible refine Arith.bv64 ?_)
    | ((with_reducible refine Arith.i64 ?_ ?_); omega)
    | ((with_reducible refine Arith.u64 ?_ ?_); omega)
    | ((with_reducible refine Arith.u32 ?_ ?_); omega)
    | ((with_reducible refine Arith.u16 ?_ ?_); omega)
    | ((with_reducible refine Arith.u8 ?_ ?_); omega)
    | ((with_reducible refine Arith.i32 ?_ ?_); omega)
    | ((with_reducible refine Arith.i64 ?_ ?_); simp (discharger := omega) only [Int.tdiv_eq_ediv_of_nonneg, shr_u8_4, shl_u8_4, shr_u16_4, shl_u16_4, shr_u16_8, shl_u16_8, shr_u32_4, shl_u32_4, shr_u32_8, shl_u32_8, shr_u32_16, shl_u32_16, shr_u32_24, shl_u32_24, shr_u64_4, shl_u64_4, shr_u64_8, shl_u64_8, shr_u64_16, shl_u64_16, shr_u64_24, shl_u64_24, shr_u64_40, shl_u64_40, shr_i64_4, shl_i64_4, shr_i64_8, shl_i64_8, shr_i64_16, shl_i64_16, shr_i64_24, shl_i64_24, shr_i64_40, shl_i64_40]; omega)
    | ((with_reducible refine Arith.u64 ?_ ?_); simp (discharger := omega) only [Int.tdiv_eq_ediv_of_nonneg, shr_u8_4, shl_u8_4, shr_u16_4, shl_u16_4, shr_u16_8, shl_u16_8, shr_u32_4, shl_u32_4, shr_u32_8, shl_u32_8, shr_u32_16, shl_u32_16, shr_u32_24, shl_u32_24, shr_u64_4, shl_u64_4, shr_u64_8, shl_u64_8, shr_u64_16, shl_u64_16, shr_u64_24, shl_u64_24, shr_u64_40, shl_u64_40, shr_i64_4, shl_i64_4, shr_i64_8, shl_i64_8, shr_i64_16, shl_i64_16, shr_i64_24, shl_i64_24, shr_i64_40, shl_i64_40]; omega)
    | ((with_reducible refine Arith.u32 ?_ ?_); simp (discharger := omega) only [Int.tdiv_eq_ediv_of_nonneg, shr_u8_4, shl_u8_4, shr_u16_4, shl_u16_4, shr_u16_8, shl_u16_8, shr_u32_4, shl_u32_4, shr_u32_8, shl_u32_8, shr_u32_16, shl_u32_16, shr_u32_24, shl_u32_24, shr_u64_4, shl_u64_4, shr_u64_8, shl_u64_8, shr_u64_16, shl_u64_16, shr_u64_24, shl_u64_24, shr_u64_40, shl_u64_40, shr_i64_4, shl_i64_4, shr_i64_8, shl_i64_8, shr_i64_16, shl_i64_16, shr_i64_24, shl_i64_24, shr_i64_40, shl_i64_40]; omega)
    | ((with_reducible refine Arith.u16 ?_ ?_); simp (discharger := omega) only [Int.tdiv_eq_ediv_of_nonneg, shr_u8_4, shl_u8_4, shr_u16_4, shl_u16_4, shr_u16_8, shl_u16_8, shr_u32_4, shl_u32_4, shr_u32_8, shl_u32_8, shr_u32_16, shl_u32_16, shr_u32_24, shl_u32_24, shr_u64_4, shl_u64_4, shr_u64_8, shl_u64_8, shr_u64_16, shl_u64_16, shr_u64_24, shl_u64_24, shr_u64_40, shl_u64_40, shr_i64_4, shl_i64_4, shr_i64_8, shl_i64_8, shr_i64_16, shl_i64_16, shr_i64_24, shl_i64_24, shr_i64_40, shl_i64_40]; omega)
    | ((with_reducible refine Arith.u8 ?_ ?_); simp (discharger := omega) only [Int.tdiv_eq_ediv_of_nonneg, shr_u8_4, shl_u8_4, shr_u16_4, shl_u16_4, shr_u16_8, shl_u16_8, shr_u32_4, shl_u32_4, shr_u32_8, shl_u32_8, shr_u32_16, shl_u32_16, shr_u32_24, shl_u32_24, shr_u64_4, shl_u64_4, shr_u64_8, shl_u64_8, shr_u64_16, shl_u64_16, shr_u64_24, shl_u64_24, shr_u64_40, shl_u64_40, shr_i64_4, shl_i64_4, shr_i64_8, shl_i64_8, shr_i64_16, shl_i64_16, shr_i64_24, shl_i64_24, shr_i64_40, shl_i64_40]; omega)
    | (with_reducible refine Arith.mk ?_)
    | (with_reducible refine Ends.mk ?_))
    all_goals rfl
theorem tells14_row (ty co w : Int) (d s : ByteArray) (w_ : World) (hty : 0 ≤ ty ∧ ty ≤ 255) (hco : 0 ≤ co ∧ co ≤ 255) (hw : 0 ≤ w ∧ w ≤ 4294967295) (hd : d.size ≤ maxLen) (hs : s.size ≤ maxLen) :
    Calls Try.prog 3 #[.agg #[.int .u8 ty, .int .u8 co, .int .u32 w, .string d], .string s] w_ fun e w' => e = .returned (.bool true) ∧ Below w_.heap.size w_ w' := by
  by_cases h : (d.size : Int) ≤ 131072 ∧ (s.size : Int) ≤ 131072
  · obtain ⟨ty1, co1, w1, d1, h1⟩ := dec14_form s
    have D := dec14_det s (by omega)
    have D1 := rdec14_det s (by omega)
    rw [h1] at D D1
    exact calls_of_can (tells14 ty co w d s _ _ ty1 co1 w1 _ d1 h.1 h.2 (enc14_det ty co w d hty hco hw (by omega)) (renc14_det ty co w d hty hco hw (by omega)) D D1) rfl rfl w_
  · exact calls_of_can (tells14_far ty co w d s h) rfl rfl w_
set_option maxHeartbeats 4000000 in
theorem errors14 (ty co w : Int) (d : ByteArray) (kind code word : Int) (p : ByteArray) (ty1 co1 w1 : Int) (d1 : ByteArray) (b1 : Bool) (ty2 co2 w2 : Int) (d2 : ByteArray) (b2 : Bool) (tos1 id1 : Int) (hold1 more1 : Bool) (at_1 ttl1 proto1 fr1 to1 : Int) (o1 q1 : ByteArray) (b3 : Bool) (hd : (d.size : Int) ≤ 4096) (hp : (p.size : Int) ≤ 131072) (E : Det Try.prog 19 [.a (msg ty co w d)] [] (.t [.a (msg ty1 co1 w1 d1), .o (.bool b1)]) []) (E1 : Det Try.prog 20 [.a (msg ty co w d)] [] (.t [.a (msg ty1 co1 w1 d1), .o (.bool b1)]) []) (R : Det Try.prog 21 [.o (.int .u8 kind), .o (.int .u8 code), .o (.int .u32 word), .o (.str p)] [] (.t [.a (msg ty2 co2 w2 d2), .o (.bool b2)]) []) (R1 : Det Try.prog 22 [.o (.int .u8 kind), .o (.int .u8 code), .o (.int .u32 word), .o (.str p)] [] (.t [.a (msg ty2 co2 w2 d2), .o (.bool b2)]) []) (Q : Det Try.prog 23 [.a (msg ty co w d)] [] (.t [.a (hdr tos1 id1 hold1 more1 at_1 ttl1 proto1 fr1 to1 o1), .o (.str q1), .o (.bool b3)]) []) (Q1 : Det Try.prog 24 [.a (msg ty co w d)] [] (.t [.a (hdr tos1 id1 hold1 more1 at_1 ttl1 proto1 fr1 to1 o1), .o (.str q1), .o (.bool b3)]) []) : Can Try.prog 4 [.a (msg ty co w d), .o (.int .u8 kind), .o (.int .u8 code), .o (.int .u32 word), .o (.str p)] [] (fun v _ => v = vB true) := by
  refine can_of_W known mix Try.func4 (by kernel_rfl) ok_law14_IcmpErrors (Nat.le_of_ble_eq_true rfl) ?_
  repeat' ((conv => whnf); first
    | ((with_reducible refine Look.mk ?_); refine ⟨_, rfl, ?_⟩)
    | ((with_reducible refine LookN.zeros ?_))
    | ((with_reducible refine LookN.bytes ?_ ?_); (simp; done))
    | ((with_reducible refine BytesW.bytes ?_))
    | ((with_reducible refine Look.byte ?_ ?_); omega)
    | ((with_reducible refine Look.setb ?_ ?_ ?_); exact bv8_bd _; omega)
    | ((with_reducible refine LookN.setb ?_ ?_ ?_); exact bv8_bd _; omega)
    | ((with_reducible refine LookN.mk ?_); refine ⟨_, rfl, ?_⟩)
    | ((with_reducible refine Need.mk ?_ ?_); first | ((with_reducible refine needB ?_); kernel_rfl) | exact rfl | trivial | omega | exact Nat.le_of_ble_eq_true rfl | (exact ⟨rfl, by omega⟩) | (intro h; first | rfl | cases h) | (simp only [lenS_text, lenS_setN, lenS_zeros]; omega) | (simp only [ByteArray.size_append, size_lit, List.size_toArray, List.length_cons, List.length_nil, Sp.ofB_size, ByteArray.size_extract]; omega))
    | ((with_reducible refine BytesW.mk ?_); refine ⟨_, rfl, ?_⟩)
    | (with_reducible refine CallW.det (E) ?_)
    | (with_reducible refine CallW.det (E1) ?_)
    | (with_reducible refine CallW.det (R) ?_)
    | (with_reducible refine CallW.det (R1) ?_)
    | (with_reducible refine CallW.det (Q) ?_)
    | (with_reducible refine CallW.det (Q1) ?_)
    | (with_reducible refine CallW.det (alive14_det) ?_)
    | ((with_reducible refine Test.tmodEqT ?_ ?_ ?_); omega; focus omega)
    | ((with_reducible refine Test.tmodEqF ?_ ?_ ?_); omega; focus omega)
    | ((with_reducible refine Test.tmodNeT ?_ ?_ ?_); omega; focus omega)
    | ((with_reducible refine Test.tmodNeF ?_ ?_ ?_); omega; focus omega)
    | ((with_reducible refine Test.tmodEq ?_ (fun h => ?_) (fun h => ?_)); omega)
    | ((with_reducible refine Test.tmodNe ?_ (fun h => ?_) (fun h => ?_)); omega)
    | ((with_reducible refine Test.notT ?_ ?_); focus assumption)
    | ((with_reducible refine Test.notF ?_ ?_); focus assumption)
    | (with_reducible refine Test.notIe (fun h => ?_) (fun h => ?_))
    | (with_reducible refine Test.notD (fun h => ?_) (fun h => ?_))
    | ((with_reducible refine Test.empty (fun h => ?_) (fun h => ?_)))
    | (with_reducible refine Test.tt ?_)
    | (with_reducible refine Test.ff ?_)
    | ((with_reducible refine Test.dt ?_ ?_); omega)
    | ((with_reducible refine Test.df ?_ ?_); omega)
    | (with_reducible refine Test.d (fun h => ?_) (fun h => ?_))
    | ((with_reducible refine Test.ieT ?_ ?_); omega)
    | ((with_reducible refine Test.ieF ?_ ?_); omega)
    | ((with_reducible refine Test.neT ?_ ?_); omega)
    | ((with_reducible refine Test.neF ?_ ?_); omega)
    | (with_reducible refine Test.ie (fun h => ?_) (fun h => ?_))
    | (with_reducible refine Test.ne (fun h => ?_) (fun h => ?_))
    | ((with_reducible refine Test.b ?_ ?_); (focus first | assumption | (simp [negB]; done) | exact rfl))
    | ((with_reducible refine Test.nb ?_ ?_); (focus first | assumption | (simp [negB]; done) | exact rfl))
    | (with_reducible refine Test.notS (fun h => ?_) (fun h => ?_))
    | (with_reducible refine Test.mk (fun h => ?_) (fun h => ?_))
    | ((with_reducible refine Arith.tdiv ?_ ?_); omega)
    | (with_reducible refine Arith.bv8 ?_)
    | (with_reducible refine Arith.bv16 ?_)
    | (with_reducible refine Arith.bv32 ?_)
    | (with_reducible refine Arith.bv64 ?_)
    | ((with_reducible refine Arith.i64 ?_ ?_); omega)
    | ((with_reducible refine Arith.u64 ?_ ?_); omega)
    | ((with_reducible refine Arith.u32 ?_ ?_); omega)
    | ((with_reducible refine Arith.u16 ?_ ?_); omega)
    | ((with_reducible refine Arith.u8 ?_ ?_); omega)
    | ((with_reducible refine Arith.i32 ?_ ?_); omega)
    | ((with_reducible refine Arith.i64 ?_ ?_); simp (discharger := omega) only [Int.tdiv_eq_ediv_of_nonneg, shr_u8_4, shl_u8_4, shr_u16_4, shl_u16_4, shr_u16_8, shl_u16_8, shr_u32_4, shl_u32_4, shr_u32_8, shl_u32_8, shr_u32_16, shl_u32_16, shr_u32_24, shl_u32_24, shr_u64_4, shl_u64_4, shr_u64_8, shl_u64_8, shr_u64_16, shl_u64_16, shr_u64_24, shl_u64_24, shr_u64_40, shl_u64_40, shr_i64_4, shl_i64_4, shr_i64_8, shl_i64_8, shr_i64_16, shl_i64_16, shr_i64_24, shl_i64_24, shr_i64_40, shl_i64_40]; omega)
    | ((with_reducible refine Arith.u64 ?_ ?_); simp (discharger := omega) only [Int.tdiv_eq_ediv_of_nonneg, shr_u8_4, shl_u8_4, shr_u16_4, shl_u16_4, shr_u16_8, shl_u16_8, shr_u32_4, shl_u32_4, shr_u32_8, shl_u32_8, shr_u32_16, shl_u32_16, shr_u32_24, shl_u32_24, shr_u64_4, shl_u64_4, shr_u64_8, shl_u64_8, shr_u64_16, shl_u64_16, shr_u64_24, shl_u64_24, shr_u64_40, shl_u64_40, shr_i64_4, shl_i64_4, shr_i64_8, shl_i64_8, shr_i64_16, shl_i64_16, shr_i64_24, shl_i64_24, shr_i64_40, shl_i64_40]; omega)
    | ((with_reducible refine Arith.u32 ?_ ?_); simp (discharger := omega) only [Int.tdiv_eq_ediv_of_nonneg, shr_u8_4, shl_u8_4, shr_u16_4, shl_u16_4, shr_u16_8, shl_u16_8, shr_u32_4, shl_u32_4, shr_u32_8, shl_u32_8, shr_u32_16, shl_u32_16, shr_u32_24, shl_u32_24, shr_u64_4, shl_u64_4, shr_u64_8, shl_u64_8, shr_u64_16, shl_u64_16, shr_u64_24, shl_u64_24, shr_u64_40, shl_u64_40, shr_i64_4, shl_i64_4, shr_i64_8, shl_i64_8, shr_i64_16, shl_i64_16, shr_i64_24, shl_i64_24, shr_i64_40, shl_i64_40]; omega)
    | ((with_reducible refine Arith.u16 ?_ ?_); simp (discharger := omega) only [Int.tdiv_eq_ediv_of_nonneg, shr_u8_4, shl_u8_4, shr_u16_4, shl_u16_4, shr_u16_8, shl_u16_8, shr_u32_4, shl_u32_4, shr_u32_8, shl_u32_8, shr_u32_16, shl_u32_16, shr_u32_24, shl_u32_24, shr_u64_4, shl_u64_4, shr_u64_8, shl_u64_8, shr_u64_16, shl_u64_16, shr_u64_24, shl_u64_24, shr_u64_40, shl_u64_40, shr_i64_4, shl_i64_4, shr_i64_8, shl_i64_8, shr_i64_16, shl_i64_16, shr_i64_24, shl_i64_24, shr_i64_40, shl_i64_40]; omega)
    | ((with_reducible refine Arith.u8 ?_ ?_); simp (discharger := omega) only [Int.tdiv_eq_ediv_of_nonneg, shr_u8_4, shl_u8_4, shr_u16_4, shl_u16_4, shr_u16_8, shl_u16_8, shr_u32_4, shl_u32_4, shr_u32_8, shl_u32_8, shr_u32_16, shl_u32_16, shr_u32_24, shl_u32_24, shr_u64_4, shl_u64_4, shr_u64_8, shl_u64_8, shr_u64_16, shl_u64_16, shr_u64_24, shl_u64_24, shr_u64_40, shl_u64_40, shr_i64_4, shl_i64_4, shr_i64_8, shl_i64_8, shr_i64_16, shl_i64_16, shr_i64_24, shl_i64_24, shr_i64_40, shl_i64_40]; omega)
    | (with_reducible refine Arith.mk ?_)
    | (with_reducible refine Ends.mk ?_))
  all_goals rfl
set_option maxHeartbeats 1000000 in
theorem errors14_far (ty co w : Int) (d : ByteArray) (kind code word : Int) (p : ByteArray) (h : ¬ ((d.size : Int) ≤ 4096 ∧ (p.size : Int) ≤ 131072)) : Can Try.prog 4 [.a (msg ty co w d), .o (.int .u8 kind), .o (.int .u8 code), .o (.int .u32 word), .o (.str p)] [] (fun v _ => v = vB true) := by
  by_cases h1 : (d.size : Int) ≤ 4096
  · refine can_of_W known mix Try.func4 (by kernel_rfl) ok_law14_IcmpErrors (Nat.le_of_ble_eq_true rfl) ?_
    repeat' ((conv => whnf); first
    | ((with_reducible refine Look.mk ?_); refine ⟨_, rfl, ?_⟩)
    | ((with_reducible refine LookN.zeros ?_))
    | ((with_reducible refine LookN.bytes ?_ ?_); (simp; done))
    | ((with_reducible refine BytesW.bytes ?_))
    | ((with_reducible refine Look.byte ?_ ?_); omega)
    | ((with_reducible refine Look.setb ?_ ?_ ?_); exact bv8_bd _; omega)
    | ((with_reducible refine LookN.setb ?_ ?_ ?_); exact bv8_bd _; omega)
    | ((with_reducible refine LookN.mk ?_); refine ⟨_, rfl, ?_⟩)
    | ((with_reducible refine Need.mk ?_ ?_); first | ((with_reducible refine needB ?_); kernel_rfl) | exact rfl | trivial | omega | exact Nat.le_of_ble_eq_true rfl | (exact ⟨rfl, by omega⟩) | (intro h; first | rfl | cases h) | (simp only [lenS_text, lenS_setN, lenS_zeros]; omega) | (simp only [ByteArray.size_append, size_lit, List.size_toArray, List.length_cons, List.length_nil, Sp.ofB_size, ByteArray.size_extract]; omega))
    | ((with_reducible refine BytesW.mk ?_); refine ⟨_, rfl, ?_⟩)
    | (with_reducible refine CallW.det (alive14_det) ?_)
    | ((with_reducible refine Test.tmodEqT ?_ ?_ ?_); omega; focus omega)
    | ((with_reducible refine Test.tmodEqF ?_ ?_ ?_); omega; focus omega)
    | ((with_reducible refine Test.tmodNeT ?_ ?_ ?_); omega; focus omega)
    | ((with_reducible refine Test.tmodNeF ?_ ?_ ?_); omega; focus omega)
    | ((with_reducible refine Test.tmodEq ?_ (fun h => ?_) (fun h => ?_)); omega)
    | ((with_reducible refine Test.tmodNe ?_ (fun h => ?_) (fun h => ?_)); omega)
    | ((with_reducible refine Test.notT ?_ ?_); focus assumption)
    | ((with_reducible refine Test.notF ?_ ?_); focus assumption)
    | (with_reducible refine Test.notIe (fun h => ?_) (fun h => ?_))
    | (with_reducible refine Test.notD (fun h => ?_) (fun h => ?_))
    | ((with_reducible refine Test.empty (fun h => ?_) (fun h => ?_)))
    | (with_reducible refine Test.tt ?_)
    | (with_reducible refine Test.ff ?_)
    | ((with_reducible refine Test.dt ?_ ?_); omega)
    | ((with_reducible refine Test.df ?_ ?_); omega)
    | (with_reducible refine Test.d (fun h => ?_) (fun h => ?_))
    | ((with_reducible refine Test.ieT ?_ ?_); omega)
    | ((with_reducible refine Test.ieF ?_ ?_); omega)
    | ((with_reducible refine Test.neT ?_ ?_); omega)
    | ((with_reducible refine Test.neF ?_ ?_); omega)
    | (with_reducible refine Test.ie (fun h => ?_) (fun h => ?_))
    | (with_reducible refine Test.ne (fun h => ?_) (fun h => ?_))
    | ((with_reducible refine Test.b ?_ ?_); (focus first | assumption | (simp [negB]; done) | exact rfl))
    | ((with_reducible refine Test.nb ?_ ?_); (focus first | assumption | (simp [negB]; done) | exact rfl))
    | (with_reducible refine Test.notS (fun h => ?_) (fun h => ?_))
    | (with_reducible refine Test.mk (fun h => ?_) (fun h => ?_))
    | ((with_reducible refine Arith.tdiv ?_ ?_); omega)
    | (with_reducible refine Arith.bv8 ?_)
    | (with_reducible refine Arith.bv16 ?_)
    | (with_reducible refine Arith.bv32 ?_)
    | (with_reducible refine Arith.bv64 ?_)
    | ((with_reducible refine Arith.i64 ?_ ?_); omega)
    | ((with_reducible refine Arith.u64 ?_ ?_); omega)
    | ((with_reducible refine Arith.u32 ?_ ?_); omega)
    | ((with_reducible refine Arith.u16 ?_ ?_); omega)
    | ((with_reducible refine Arith.u8 ?_ ?_); omega)
    | ((with_reducible refine Arith.i32 ?_ ?_); omega)
    | ((with_reducible refine Arith.i64 ?_ ?_); simp (discharger := omega) only [Int.tdiv_eq_ediv_of_nonneg, shr_u8_4, shl_u8_4, shr_u16_4, shl_u16_4, shr_u16_8, shl_u16_8, shr_u32_4, shl_u32_4, shr_u32_8, shl_u32_8, shr_u32_16, shl_u32_16, shr_u32_24, shl_u32_24, shr_u64_4, shl_u64_4, shr_u64_8, shl_u64_8, shr_u64_16, shl_u64_16, shr_u64_24, shl_u64_24, shr_u64_40, shl_u64_40, shr_i64_4, shl_i64_4, shr_i64_8, shl_i64_8, shr_i64_16, shl_i64_16, shr_i64_24, shl_i64_24, shr_i64_40, shl_i64_40]; omega)
    | ((with_reducible refine Arith.u64 ?_ ?_); simp (discharger := omega) only [Int.tdiv_eq_ediv_of_nonneg, shr_u8_4, shl_u8_4, shr_u16_4, shl_u16_4, shr_u16_8, shl_u16_8, shr_u32_4, shl_u32_4, shr_u32_8, shl_u32_8, shr_u32_16, shl_u32_16, shr_u32_24, shl_u32_24, shr_u64_4, shl_u64_4, shr_u64_8, shl_u64_8, shr_u64_16, shl_u64_16, shr_u64_24, shl_u64_24, shr_u64_40, shl_u64_40, shr_i64_4, shl_i64_4, shr_i64_8, shl_i64_8, shr_i64_16, shl_i64_16, shr_i64_24, shl_i64_24, shr_i64_40, shl_i64_40]; omega)
    | ((with_reducible refine Arith.u32 ?_ ?_); simp (discharger := omega) only [Int.tdiv_eq_ediv_of_nonneg, shr_u8_4, shl_u8_4, shr_u16_4, shl_u16_4, shr_u16_8, shl_u16_8, shr_u32_4, shl_u32_4, shr_u32_8, shl_u32_8, shr_u32_16, shl_u32_16, shr_u32_24, shl_u32_24, shr_u64_4, shl_u64_4, shr_u64_8, shl_u64_8, shr_u64_16, shl_u64_16, shr_u64_24, shl_u64_24, shr_u64_40, shl_u64_40, shr_i64_4, shl_i64_4, shr_i64_8, shl_i64_8, shr_i64_16, shl_i64_16, shr_i64_24, shl_i64_24, shr_i64_40, shl_i64_40]; omega)
    | ((with_reducible refine Arith.u16 ?_ ?_); simp (discharger := omega) only [Int.tdiv_eq_ediv_of_nonneg, shr_u8_4, shl_u8_4, shr_u16_4, shl_u16_4, shr_u16_8, shl_u16_8, shr_u32_4, shl_u32_4, shr_u32_8, shl_u32_8, shr_u32_16, shl_u32_16, shr_u32_24, shl_u32_24, shr_u64_4, shl_u64_4, shr_u64_8, shl_u64_8, shr_u64_16, shl_u64_16, shr_u64_24, shl_u64_24, shr_u64_40, shl_u64_40, shr_i64_4, shl_i64_4, shr_i64_8, shl_i64_8, shr_i64_16, shl_i64_16, shr_i64_24, shl_i64_24, shr_i64_40, shl_i64_40]; omega)
    | ((with_reducible refine Arith.u8 ?_ ?_); simp (discharger := omega) only [Int.tdiv_eq_ediv_of_nonneg, shr_u8_4, shl_u8_4, shr_u16_4, shl_u16_4, shr_u16_8, shl_u16_8, shr_u32_4, shl_u32_4, shr_u32_8, shl_u32_8, shr_u32_16, shl_u32_16, shr_u32_24, shl_u32_24, shr_u64_4, shl_u64_4, shr_u64_8, shl_u64_8, shr_u64_16, shl_u64_16, shr_u64_24, shl_u64_24, shr_u64_40, shl_u64_40, shr_i64_4, shl_i64_4, shr_i64_8, shl_i64_8, shr_i64_16, shl_i64_16, shr_i64_24, shl_i64_24, shr_i64_40, shl_i64_40]; omega)
    | (with_reducible refine Arith.mk ?_)
    | (with_reducible refine Ends.mk ?_))
    all_goals rfl
  · refine can_of_W known mix Try.func4 (by kernel_rfl) ok_law14_IcmpErrors (Nat.le_of_ble_eq_true rfl) ?_
    repeat' ((conv => whnf); first
    | ((with_reducible refine Look.mk ?_); refine ⟨_, rfl, ?_⟩)
    | ((with_reducible refine LookN.zeros ?_))
    | ((with_reducible refine LookN.bytes ?_ ?_); (simp; done))
    | ((with_reducible refine BytesW.bytes ?_))
    | ((with_reducible refine Look.byte ?_ ?_); omega)
    | ((with_reducible refine Look.setb ?_ ?_ ?_); exact bv8_bd _; omega)
    | ((with_reducible refine LookN.setb ?_ ?_ ?_); exact bv8_bd _; omega)
    | ((with_reducible refine LookN.mk ?_); refine ⟨_, rfl, ?_⟩)
    | ((with_reducible refine Need.mk ?_ ?_); first | ((with_reducible refine needB ?_); kernel_rfl) | exact rfl | trivial | omega | exact Nat.le_of_ble_eq_true rfl | (exact ⟨rfl, by omega⟩) | (intro h; first | rfl | cases h) | (simp only [lenS_text, lenS_setN, lenS_zeros]; omega) | (simp only [ByteArray.size_append, size_lit, List.size_toArray, List.length_cons, List.length_nil, Sp.ofB_size, ByteArray.size_extract]; omega))
    | ((with_reducible refine BytesW.mk ?_); refine ⟨_, rfl, ?_⟩)
    | (with_reducible refine CallW.det (alive14_det) ?_)
    | ((with_reducible refine Test.tmodEqT ?_ ?_ ?_); omega; focus omega)
    | ((with_reducible refine Test.tmodEqF ?_ ?_ ?_); omega; focus omega)
    | ((with_reducible refine Test.tmodNeT ?_ ?_ ?_); omega; focus omega)
    | ((with_reducible refine Test.tmodNeF ?_ ?_ ?_); omega; focus omega)
    | ((with_reducible refine Test.tmodEq ?_ (fun h => ?_) (fun h => ?_)); omega)
    | ((with_reducible refine Test.tmodNe ?_ (fun h => ?_) (fun h => ?_)); omega)
    | ((with_reducible refine Test.notT ?_ ?_); focus assumption)
    | ((with_reducible refine Test.notF ?_ ?_); focus assumption)
    | (with_reducible refine Test.notIe (fun h => ?_) (fun h => ?_))
    | (with_reducible refine Test.notD (fun h => ?_) (fun h => ?_))
    | ((with_reducible refine Test.empty (fun h => ?_) (fun h => ?_)))
    | (with_reducible refine Test.tt ?_)
    | (with_reducible refine Test.ff ?_)
    | ((with_reducible refine Test.dt ?_ ?_); omega)
    | ((with_reducible refine Test.df ?_ ?_); omega)
    | (with_reducible refine Test.d (fun h => ?_) (fun h => ?_))
    | ((with_reducible refine Test.ieT ?_ ?_); omega)
    | ((with_reducible refine Test.ieF ?_ ?_); omega)
    | ((with_reducible refine Test.neT ?_ ?_); omega)
    | ((with_reducible refine Test.neF ?_ ?_); omega)
    | (with_reducible refine Test.ie (fun h => ?_) (fun h => ?_))
    | (with_reducible refine Test.ne (fun h => ?_) (fun h => ?_))
    | ((with_reducible refine Test.b ?_ ?_); (focus first | assumption | (simp [negB]; done) | exact rfl))
    | ((with_reducible refine Test.nb ?_ ?_); (focus first | assumption | (simp [negB]; done) | exact rfl))
    | (with_reducible refine Test.notS (fun h => ?_) (fun h => ?_))
    | (with_reducible refine Test.mk (fun h => ?_) (fun h => ?_))
    | ((with_reducible refine Arith.tdiv ?_ ?_); omega)
    | (with_reducible refine Arith.bv8 ?_)
    | (with_reducible refine Arith.bv16 ?_)
    | (with_reducible refine Arith.bv32 ?_)
    | (with_reducible refine Arith.bv64 ?_)
    | ((with_reducible refine Arith.i64 ?_ ?_); omega)
    | ((with_reducible refine Arith.u64 ?_ ?_); omega)
    | ((with_reducible refine Arith.u32 ?_ ?_); omega)
    | ((with_reducible refine Arith.u16 ?_ ?_); omega)
    | ((with_reducible refine Arith.u8 ?_ ?_); omega)
    | ((with_reducible refine Arith.i32 ?_ ?_); omega)
    | ((with_reducible refine Arith.i64 ?_ ?_); simp (discharger := omega) only [Int.tdiv_eq_ediv_of_nonneg, shr_u8_4, shl_u8_4, shr_u16_4, shl_u16_4, shr_u16_8, shl_u16_8, shr_u32_4, shl_u32_4, shr_u32_8, shl_u32_8, shr_u32_16, shl_u32_16, shr_u32_24, shl_u32_24, shr_u64_4, shl_u64_4, shr_u64_8, shl_u64_8, shr_u64_16, shl_u64_16, shr_u64_24, shl_u64_24, shr_u64_40, shl_u64_40, shr_i64_4, shl_i64_4, shr_i64_8, shl_i64_8, shr_i64_16, shl_i64_16, shr_i64_24, shl_i64_24, shr_i64_40, shl_i64_40]; omega)
    | ((with_reducible refine Arith.u64 ?_ ?_); simp (discharger := omega) only [Int.tdiv_eq_ediv_of_nonneg, shr_u8_4, shl_u8_4, shr_u16_4, shl_u16_4, shr_u16_8, shl_u16_8, shr_u32_4, shl_u32_4, shr_u32_8, shl_u32_8, shr_u32_16, shl_u32_16, shr_u32_24, shl_u32_24, shr_u64_4, shl_u64_4, shr_u64_8, shl_u64_8, shr_u64_16, shl_u64_16, shr_u64_24, shl_u64_24, shr_u64_40, shl_u64_40, shr_i64_4, shl_i64_4, shr_i64_8, shl_i64_8, shr_i64_16, shl_i64_16, shr_i64_24, shl_i64_24, shr_i64_40, shl_i64_40]; omega)
    | ((with_reducible refine Arith.u32 ?_ ?_); simp (discharger := omega) only [Int.tdiv_eq_ediv_of_nonneg, shr_u8_4, shl_u8_4, shr_u16_4, shl_u16_4, shr_u16_8, shl_u16_8, shr_u32_4, shl_u32_4, shr_u32_8, shl_u32_8, shr_u32_16, shl_u32_16, shr_u32_24, shl_u32_24, shr_u64_4, shl_u64_4, shr_u64_8, shl_u64_8, shr_u64_16, shl_u64_16, shr_u64_24, shl_u64_24, shr_u64_40, shl_u64_40, shr_i64_4, shl_i64_4, shr_i64_8, shl_i64_8, shr_i64_16, shl_i64_16, shr_i64_24, shl_i64_24, shr_i64_40, shl_i64_40]; omega)
    | ((with_reducible refine Arith.u16 ?_ ?_); simp (discharger := omega) only [Int.tdiv_eq_ediv_of_nonneg, shr_u8_4, shl_u8_4, shr_u16_4, shl_u16_4, shr_u16_8, shl_u16_8, shr_u32_4, shl_u32_4, shr_u32_8, shl_u32_8, shr_u32_16, shl_u32_16, shr_u32_24, shl_u32_24, shr_u64_4, shl_u64_4, shr_u64_8, shl_u64_8, shr_u64_16, shl_u64_16, shr_u64_24, shl_u64_24, shr_u64_40, shl_u64_40, shr_i64_4, shl_i64_4, shr_i64_8, shl_i64_8, shr_i64_16, shl_i64_16, shr_i64_24, shl_i64_24, shr_i64_40, shl_i64_40]; omega)
    | ((with_reducible refine Arith.u8 ?_ ?_); simp (discharger := omega) only [Int.tdiv_eq_ediv_of_nonneg, shr_u8_4, shl_u8_4, shr_u16_4, shl_u16_4, shr_u16_8, shl_u16_8, shr_u32_4, shl_u32_4, shr_u32_8, shl_u32_8, shr_u32_16, shl_u32_16, shr_u32_24, shl_u32_24, shr_u64_4, shl_u64_4, shr_u64_8, shl_u64_8, shr_u64_16, shl_u64_16, shr_u64_24, shl_u64_24, shr_u64_40, shl_u64_40, shr_i64_4, shl_i64_4, shr_i64_8, shl_i64_8, shr_i64_16, shl_i64_16, shr_i64_24, shl_i64_24, shr_i64_40, shl_i64_40]; omega)
    | (with_reducible refine Arith.mk ?_)
    | (with_reducible refine Ends.mk ?_))
    all_goals rfl
theorem dec10_fits (s : ByteArray) (hs : s.size ≤ 1000000) {tos id : Int} {hold more : Bool} {at_ ttl proto fr to : Int} {o : ByteArray} (h : dec10 s = hdr tos id hold more at_ ttl proto fr to o) : (dec10e s = 0 → (20 : Int) + o.size ≤ s.size) ∧ o.size ≤ 1000000 ∧ (0 ≤ fr ∧ fr ≤ 4294967295) ∧ (0 ≤ to ∧ to ≤ 4294967295) := by
  have c12 := n4_bd s 12
  have c16 := n4_bd s 16
  unfold dec10 at h
  split at h
  · rename_i h0
    simp only [hdr, List.cons.injEq, SV.int.injEq, SV.str.injEq, SV.bool.injEq, true_and, and_true] at h
    obtain ⟨_, _, _, _, _, _, _, h1, h2, h3⟩ := h
    subst h1 h2 h3
    rw [ByteArray.size_extract]
    have h20 : Int.toNat 20 = 20 := rfl
    refine ⟨fun _ => ?_, by omega, c12, c16⟩
    unfold dec10e at h0
    repeat' split at h0
    all_goals first | (exfalso; omega) | omega
  · rename_i h0
    simp only [hdr, List.cons.injEq, SV.int.injEq, SV.str.injEq, SV.bool.injEq, true_and, and_true] at h
    obtain ⟨_, _, _, _, _, _, _, h1, h2, h3⟩ := h
    subst h1 h2 h3
    exact ⟨fun e => absurd e h0, by decide, by omega, by omega⟩
theorem dec10d_size (s : ByteArray) : (dec10d s).size ≤ s.size := by
  unfold dec10d; split
  · rw [ByteArray.size_extract]; omega
  · exact Nat.zero_le _
theorem errors14_row (ty co w : Int) (d : ByteArray) (kind code word : Int) (p : ByteArray) (w_ : World) (hty : 0 ≤ ty ∧ ty ≤ 255) (hco : 0 ≤ co ∧ co ≤ 255) (hw : 0 ≤ w ∧ w ≤ 4294967295) (hd : d.size ≤ maxLen) (hk : 0 ≤ kind ∧ kind ≤ 255) (hc : 0 ≤ code ∧ code ≤ 255) (hwd : 0 ≤ word ∧ word ≤ 4294967295) (hp : p.size ≤ maxLen) :
    Calls Try.prog 4 #[.agg #[.int .u8 ty, .int .u8 co, .int .u32 w, .string d], .int .u8 kind, .int .u8 code, .int .u32 word, .string p] w_ fun e w' => e = .returned (.bool true) ∧ Below w_.heap.size w_ w' := by
  by_cases h : (d.size : Int) ≤ 4096 ∧ (p.size : Int) ≤ 131072
  · obtain ⟨ty1, co1, w1, d1, h1⟩ := echo14_form ty co w d
    have E := echo_det ty co w d
    have E1 := recho_det ty co w d
    rw [h1] at E E1
    obtain ⟨tos, id, hold, more, at_, ttl, proto, fr, to, o, h2⟩ := dec10_form p
    have D := dec_det p (by omega)
    have D1 := rdec_det p (by omega)
    have hf := dec10_fits p (by omega) h2
    have hz := dec10d_size p
    rw [h2] at D D1
    have R := error_det kind code word p hk (by omega) _ _ _ _ _ _ _ _ _ _ _ _ hf.2.2.1 hf.2.2.2 hf.1 hf.2.1 (by omega) D
    have R1 := rerror_det kind code word p hk (by omega) _ _ _ _ _ _ _ _ _ _ _ _ hf.2.2.1 hf.2.2.2 hf.1 hf.2.1 (by omega) D1
    obtain ⟨ty2, co2, w2, d2, h3⟩ := err14_form kind code word (dec10e p) at_ fr to proto p o (dec10d p)
    rw [h3] at R R1
    have Q := quoted_det ty co w d hty (by omega)
    have Q1 := rquoted_det ty co w d hty (by omega)
    obtain ⟨tos1, id1, hold1, more1, at_1, ttl1, proto1, fr1, to1, o1, h4⟩ := quo14_form ty d
    rw [h4] at Q Q1
    exact calls_of_can (errors14 ty co w d kind code word p _ _ _ _ _ _ _ _ _ _ _ _ _ _ _ _ _ _ _ _ _ _ h.1 h.2 E E1 R R1 Q Q1) rfl rfl w_
  · exact calls_of_can (errors14_far ty co w d kind code word p h) rfl rfl w_
end G2
end Go.Proofs.Ytnmeeafnobfobaa.VM
