/- law 15 by the evaluator: contracts, and the small functions. -/
import Derived.Test.YtlpeefemffmpmaaVmR
import Derived.Test.YtlpeefemffmpmaaLawUdpT
import Derived.Test.YtlpeefemffmpmaaUdpL
namespace Go.Proofs.Ytlpeefemffmpmaa.VM
namespace L15
open Go.RowKit
set_option linter.unusedVariables false
set_option linter.unusedSimpArgs false
set_option maxRecDepth 100000
set_option pp.deepTerms false
set_option pp.deepTerms.threshold 4
def eqsT : List Nat := [41, 42, 43, 44, 45, 46, 62, 63]
def newsT (f : Nat) : Nat := (if f = 61 then 1 else 0)
theorem known : Known Try.prog eqsT := known_of (by kernel_rfl)
theorem mix : Try.prog.follows .mixedOrders = true := by kernel_rfl
abbrev dgm (x p y q : Int) (d : ByteArray) : List SV := [.int .u32 x, .int .u16 p, .int .u32 y, .int .u16 q, .str d]
theorem ent_udp_Encode : Ent Try.prog 29 := ⟨_, Try.func29, by kernel_rfl, by kernel_rfl⟩
theorem ent_udp_Decode : Ent Try.prog 31 := ⟨_, Try.func31, by kernel_rfl, by kernel_rfl⟩
theorem ent_law15_alive : Ent Try.prog 28 := ⟨_, Try.func28, by kernel_rfl, by kernel_rfl⟩
def vf_law15_cut : VFn := ⟨(.seq (.reg [
    ⟨(some 4), .mv (.c (.p (.o (.str ⟨#[]⟩)))), none, 0⟩] 0 none) (.seq (.seq (.reg [
    ⟨(some 5), .mv (.t 1), none, 0⟩,
    ⟨(some 6), .mv (.t 0), none, 0⟩,
    ⟨(some 7), .len false (.t 6), none, 0⟩,
    ⟨(some 8), .bin .gtr (.t 5) (.t 7), none, 0⟩] 0 none) (.cond (.t 8) (.seq (.reg [
    ⟨(some 9), .mv (.t 0), none, 0⟩,
    ⟨(some 4), .mv (.t 9), none, 0⟩] 0 none) .ret) .skip)) (.seq (.reg [
    ⟨(some 10), .mv (.t 0), none, 0⟩,
    ⟨(some 11), .mv (.t 1), none, 0⟩,
    ⟨(some 12), .sls (.t 10) none (some (.t 11)), none, 0⟩,
    ⟨(some 4), .mv (.t 12), none, 0⟩] 0 none) .ret))),
  [.tmp 4], 13, [0, 1, 4]⟩
theorem ok_law15_cut : cFn Try.prog eqsT newsT vf_law15_cut.keep Try.f33 = some vf_law15_cut := by kernel_rfl
def vf_law15_behind : VFn := ⟨(.seq (.reg [
    ⟨(some 4), .mv (.c (.p (.o (.str ⟨#[]⟩)))), none, 0⟩] 0 none) (.seq (.seq (.reg [
    ⟨(some 5), .mv (.t 1), none, 0⟩,
    ⟨(some 6), .mv (.t 0), none, 0⟩,
    ⟨(some 7), .len false (.t 6), none, 0⟩,
    ⟨(some 8), .bin .gtr (.t 5) (.t 7), none, 0⟩] 0 none) (.cond (.t 8) (.seq (.reg [
    ⟨(some 4), .mv (.c (.p (.o (.str ⟨#[]⟩)))), none, 0⟩] 0 none) .ret) .skip)) (.seq (.reg [
    ⟨(some 9), .mv (.t 0), none, 0⟩,
    ⟨(some 10), .mv (.t 1), none, 0⟩,
    ⟨(some 11), .sls (.t 9) (some (.t 10)) none, none, 0⟩,
    ⟨(some 4), .mv (.t 11), none, 0⟩] 0 none) .ret))),
  [.tmp 4], 12, [0, 1, 4]⟩
theorem ok_law15_behind : cFn Try.prog eqsT newsT vf_law15_behind.keep Try.f34 = some vf_law15_behind := by kernel_rfl
def vf_law15_UdpEnds : VFn := ⟨(.seq (.reg [
    ⟨(some 8), .mv (.c (.p (.o (.bool false)))), none, 0⟩] 0 none) (.seq (.seq (.reg [
    ⟨(some 18), .mv (.t 1), none, 0⟩,
    ⟨(some 19), .len false (.t 18), none, 0⟩,
    ⟨(some 20), .bin .gtr (.t 19) (.c (.p (.o (.int .i64 4096)))), none, 0⟩] 0 none) (.cond (.t 20) (.seq (.reg [
    ⟨(some 21), .call 28 [] 0, none, 0⟩,
    ⟨(some 8), .mv (.t 21), none, 0⟩] 0 none) .ret) .skip)) (.seq (.reg [
    ⟨(some 23), .mv (.t 0), none, 0⟩,
    ⟨(some 24), .cvi .i64 (.t 23), none, 0⟩,
    ⟨(some 25), .bin .add (.c (.p (.o (.int .i64 65507)))) (.t 24), none, 0⟩,
    ⟨(some 26), .mks 1 1 [.int .u8 0] (.t 25) (.t 25), none, 0⟩,
    ⟨(some 27), .b2s (.t 26), none, 1⟩,
    ⟨(some 28), .bld [.int .u32 0, .int .u16 0, .int .u32 0, .int .u16 0, .str ⟨#[]⟩] [(4, 1, (.t 27))], none, 1⟩,
    ⟨(some 29), .call 29 [(.t 28)] 0, none, 1⟩,
    ⟨(some 22), .mv (.t 29), none, 1⟩,
    ⟨(some 30), .ext 0 (.t 22), none, 1⟩,
    ⟨(some 31), .ext 1 (.t 22), none, 1⟩,
    ⟨(some 9), .mv (.t 30), none, 1⟩,
    ⟨(some 10), .mv (.t 31), none, 1⟩] 1 none) (.seq (.reg [
    ⟨(some 32), .mv (.t 2), none, 0⟩,
    ⟨(some 33), .bld [.int .u32 0, .int .u16 0] [(0, 1, (.t 32)), (1, 1, (.c (.p (.o (.int .u16 7)))))], none, 0⟩,
    ⟨(some 34), .mv (.t 3), none, 0⟩,
    ⟨(some 35), .bld [.int .u32 0, .int .u16 0] [(0, 1, (.t 34)), (1, 1, (.c (.p (.o (.int .u16 9)))))], none, 0⟩,
    ⟨(some 36), .bld [.int .u32 0, .int .u16 0, .int .u32 0, .int .u16 0] [(0, 2, (.t 33)), (2, 2, (.t 35))], none, 0⟩,
    ⟨(some 37), .mv (.t 1), none, 0⟩,
    ⟨(some 38), .bld [.int .u32 0, .int .u16 0, .int .u32 0, .int .u16 0, .str ⟨#[]⟩] [(0, 4, (.t 36)), (4, 1, (.t 37))], none, 0⟩,
    ⟨(some 11), .new [.int .u32 0, .int .u16 0, .int .u32 0, .int .u16 0, .str ⟨#[]⟩], none, 0⟩,
    ⟨none, .st 5 (.t 11) (.t 38), none, 1⟩] 1 none) (.seq (.reg [
    ⟨(some 40), .ld (some 5) (.t 11), none, 0⟩,
    ⟨(some 41), .call 29 [(.t 40)] 0, none, 0⟩,
    ⟨(some 39), .mv (.t 41), none, 0⟩,
    ⟨(some 42), .ext 0 (.t 39), none, 0⟩,
    ⟨(some 43), .ext 1 (.t 39), none, 0⟩,
    ⟨(some 12), .mv (.t 42), none, 0⟩,
    ⟨(some 13), .mv (.t 43), none, 0⟩] 0 none) (.seq (.seq (.reg [
    ⟨(some 44), .mv (.t 10), none, 0⟩,
    ⟨(some 45), .bin .eql (.t 44) (.c (.p (.o (.int .i64 0)))), none, 0⟩,
    ⟨(some 46), .mv (.t 0), none, 0⟩,
    ⟨(some 47), .bin .leq (.t 46) (.c (.p (.o (.int .i8 0)))), none, 0⟩,
    ⟨(some 48), .eq .bool true (.t 45) (.t 47), none, 0⟩,
    ⟨(some 49), .mv (.t 48), none, 0⟩,
    ⟨(some 50), .mv (.t 10), (some (49, false)), 0⟩,
    ⟨(some 51), .bin .eql (.t 50) (.c (.p (.o (.int .i64 0)))), (some (49, false)), 0⟩,
    ⟨(some 52), .mv (.t 51), (some (49, false)), 0⟩,
    ⟨(some 53), .mv (.t 9), (some (52, true)), 0⟩,
    ⟨(some 54), .len false (.t 53), (some (52, true)), 0⟩,
    ⟨(some 55), .mv (.t 0), (some (52, true)), 0⟩,
    ⟨(some 56), .cvi .i64 (.t 55), (some (52, true)), 0⟩,
    ⟨(some 57), .bin .add (.c (.p (.o (.int .i64 65515)))) (.t 56), (some (52, true)), 0⟩,
    ⟨(some 58), .bin .neq (.t 54) (.t 57), (some (52, true)), 0⟩,
    ⟨(some 59), .pick (.t 52) (.t 58) (.c (.p (.o (.bool false)))), (some (49, false)), 0⟩,
    ⟨(some 60), .pick (.t 49) (.c (.p (.o (.bool true)))) (.t 59), none, 0⟩,
    ⟨(some 61), .mv (.t 60), none, 0⟩,
    ⟨(some 62), .mv (.t 13), (some (61, false)), 0⟩,
    ⟨(some 63), .bin .neq (.t 62) (.c (.p (.o (.int .i64 0)))), (some (61, false)), 0⟩,
    ⟨(some 64), .pick (.t 61) (.c (.p (.o (.bool true)))) (.t 63), none, 0⟩] 0 none) (.cond (.t 64) (.seq (.reg [
    ⟨(some 8), .mv (.c (.p (.o (.bool false)))), none, 0⟩] 0 none) .ret) .skip)) (.seq (.reg [
    ⟨(some 66), .mv (.t 2), none, 0⟩,
    ⟨(some 67), .mv (.t 3), none, 0⟩,
    ⟨(some 68), .mv (.t 12), none, 0⟩,
    ⟨(some 69), .call 33 [(.t 68), (.c (.p (.o (.int .i64 6))))] 0, none, 0⟩,
    ⟨(some 70), .bin .add (.t 69) (.c (.p (.o (.str ⟨#[0, 0]⟩)))), none, 0⟩,
    ⟨(some 71), .mv (.t 12), none, 0⟩,
    ⟨(some 72), .call 34 [(.t 71), (.c (.p (.o (.int .i64 8))))] 0, none, 0⟩,
    ⟨(some 73), .bin .add (.t 70) (.t 72), none, 0⟩,
    ⟨(some 74), .call 31 [(.t 66), (.t 67), (.t 73)] 0, none, 0⟩,
    ⟨(some 65), .mv (.t 74), none, 0⟩,
    ⟨(some 75), .ext 0 (.t 65), none, 0⟩,
    ⟨(some 76), .ext 1 (.t 65), none, 0⟩,
    ⟨(some 14), .new [.int .u32 0, .int .u16 0, .int .u32 0, .int .u16 0, .str ⟨#[]⟩], none, 0⟩,
    ⟨none, .st 5 (.t 14) (.t 75), none, 1⟩,
    ⟨(some 15), .mv (.t 76), none, 1⟩] 1 none) (.seq (.reg [
    ⟨(some 78), .mv (.t 3), none, 0⟩,
    ⟨(some 79), .mv (.t 2), none, 0⟩,
    ⟨(some 80), .mv (.t 12), none, 0⟩,
    ⟨(some 81), .call 31 [(.t 78), (.t 79), (.t 80)] 0, none, 0⟩,
    ⟨(some 77), .mv (.t 81), none, 0⟩,
    ⟨(some 82), .ext 0 (.t 77), none, 0⟩,
    ⟨(some 83), .ext 1 (.t 77), none, 0⟩,
    ⟨(some 16), .new [.int .u32 0, .int .u16 0, .int .u32 0, .int .u16 0, .str ⟨#[]⟩], none, 0⟩,
    ⟨none, .st 5 (.t 16) (.t 82), none, 1⟩,
    ⟨(some 17), .mv (.t 83), none, 1⟩] 1 none) (.seq (.reg [
    ⟨(some 84), .ld (some 5) (.t 14), none, 0⟩,
    ⟨(some 85), .ld (some 5) (.t 11), none, 0⟩,
    ⟨(some 86), .eq (.flat [.int .u32, .int .u16, .int .u32, .int .u16, .str]) false (.t 84) (.t 85), none, 0⟩,
    ⟨(some 87), .mv (.t 86), none, 0⟩,
    ⟨(some 88), .mv (.t 15), (some (87, true)), 0⟩,
    ⟨(some 89), .bin .eql (.t 88) (.c (.p (.o (.int .i64 0)))), (some (87, true)), 0⟩,
    ⟨(some 90), .pick (.t 87) (.t 89) (.c (.p (.o (.bool false)))), none, 0⟩,
    ⟨(some 91), .mv (.t 90), none, 0⟩,
    ⟨(some 92), .mv (.t 17), (some (91, true)), 0⟩,
    ⟨(some 93), .bin .eql (.t 92) (.c (.p (.o (.int .i64 0)))), (some (91, true)), 0⟩,
    ⟨(some 94), .pick (.t 91) (.t 93) (.c (.p (.o (.bool false)))), none, 0⟩,
    ⟨(some 95), .mv (.t 94), none, 0⟩,
    ⟨(some 96), .fad 4 (.t 16), (some (95, true)), 0⟩,
    ⟨(some 97), .ld none (.t 96), (some (95, true)), 0⟩,
    ⟨(some 98), .mv (.t 1), (some (95, true)), 0⟩,
    ⟨(some 99), .bin .eql (.t 97) (.t 98), (some (95, true)), 0⟩,
    ⟨(some 100), .pick (.t 95) (.t 99) (.c (.p (.o (.bool false)))), none, 0⟩,
    ⟨(some 101), .mv (.t 100), none, 0⟩,
    ⟨(some 102), .call 28 [] 0, (some (101, true)), 0⟩,
    ⟨(some 103), .pick (.t 101) (.t 102) (.c (.p (.o (.bool false)))), none, 0⟩,
    ⟨(some 8), .mv (.t 103), none, 0⟩] 0 none) .ret))))))))),
  [.tmp 8], 104, [0, 1, 2, 3, 8, 9, 10, 11, 12, 13, 14, 15, 16, 17, 50, 51, 52, 53, 54, 55, 56, 57, 58, 59, 62, 63, 88, 89, 92, 93, 96, 97, 98, 99, 102]⟩
theorem ok_law15_UdpEnds : cFn Try.prog eqsT newsT vf_law15_UdpEnds.keep Try.f9 = some vf_law15_UdpEnds := by kernel_rfl
def vf_law15_UdpSpoilt : VFn := ⟨(.seq (.reg [
    ⟨(some 5), .box (.t 0), none, 0⟩,
    ⟨(some 10), .mv (.c (.p (.o (.bool false)))), none, 1⟩] 1 none) (.seq (.seq (.reg [
    ⟨(some 23), .fad 4 (.t 5), none, 0⟩,
    ⟨(some 24), .ld none (.t 23), none, 0⟩,
    ⟨(some 25), .len false (.t 24), none, 0⟩,
    ⟨(some 26), .bin .gtr (.t 25) (.c (.p (.o (.int .i64 4096)))), none, 0⟩] 0 none) (.cond (.t 26) (.seq (.reg [
    ⟨(some 27), .call 28 [] 0, none, 0⟩,
    ⟨(some 10), .mv (.t 27), none, 0⟩] 0 none) .ret) .skip)) (.seq (.reg [
    ⟨(some 29), .ld (some 5) (.t 5), none, 0⟩,
    ⟨(some 30), .call 29 [(.t 29)] 0, none, 0⟩,
    ⟨(some 28), .mv (.t 30), none, 0⟩,
    ⟨(some 31), .ext 0 (.t 28), none, 0⟩,
    ⟨(some 32), .ext 1 (.t 28), none, 0⟩,
    ⟨(some 11), .mv (.t 31), none, 0⟩,
    ⟨(some 12), .mv (.t 32), none, 0⟩] 0 none) (.seq (.seq (.reg [
    ⟨(some 33), .mv (.t 12), none, 0⟩,
    ⟨(some 34), .bin .neq (.t 33) (.c (.p (.o (.int .i64 0)))), none, 0⟩] 0 none) (.cond (.t 34) (.seq (.reg [
    ⟨(some 10), .mv (.c (.p (.o (.bool false)))), none, 0⟩] 0 none) .ret) .skip)) (.seq (.seq (.reg [
    ⟨(some 35), .mv (.t 11), none, 0⟩,
    ⟨(some 36), .len false (.t 35), none, 0⟩,
    ⟨(some 37), .bin .lss (.t 36) (.c (.p (.o (.int .i64 8)))), none, 0⟩] 0 none) (.cond (.t 37) (.seq (.reg [
    ⟨(some 10), .mv (.c (.p (.o (.bool false)))), none, 0⟩] 0 none) .ret) .skip)) (.seq (.reg [
    ⟨(some 38), .mv (.t 1), none, 0⟩,
    ⟨(some 39), .cvi .i64 (.t 38), none, 0⟩,
    ⟨(some 40), .mv (.t 11), none, 0⟩,
    ⟨(some 41), .len false (.t 40), none, 0⟩,
    ⟨(some 42), .bin .rem (.t 39) (.t 41), none, 0⟩,
    ⟨(some 13), .mv (.t 42), none, 0⟩] 0 none) (.seq (.reg [
    ⟨(some 43), .mv (.t 11), none, 0⟩,
    ⟨(some 44), .s2b (.t 43), none, 0⟩,
    ⟨(some 14), .mv (.t 44), none, 1⟩] 1 none) (.seq (.reg [
    ⟨(some 45), .mv (.t 14), none, 0⟩,
    ⟨(some 46), .mv (.t 13), none, 0⟩,
    ⟨(some 47), .iad 1 (.t 45) (.t 46), none, 0⟩,
    ⟨(some 48), .ld none (.t 47), none, 0⟩,
    ⟨(some 49), .mv (.t 2), none, 0⟩,
    ⟨(some 50), .bin .xor (.t 48) (.t 49), none, 0⟩,
    ⟨(some 51), .iad 1 (.t 45) (.t 46), none, 0⟩,
    ⟨none, .st 1 (.t 51) (.t 50), none, 0⟩] 0 none) (.seq (.reg [
    ⟨(some 53), .fad 0 (.t 5), none, 0⟩,
    ⟨(some 54), .fad 0 (.t 53), none, 0⟩,
    ⟨(some 55), .fad 0 (.t 54), none, 0⟩,
    ⟨(some 56), .ld none (.t 55), none, 0⟩,
    ⟨(some 57), .fad 0 (.t 5), none, 0⟩,
    ⟨(some 58), .fad 2 (.t 57), none, 0⟩,
    ⟨(some 59), .fad 0 (.t 58), none, 0⟩,
    ⟨(some 60), .ld none (.t 59), none, 0⟩,
    ⟨(some 61), .mv (.t 14), none, 0⟩,
    ⟨(some 62), .b2s (.t 61), none, 0⟩,
    ⟨(some 63), .call 31 [(.t 56), (.t 60), (.t 62)] 0, none, 0⟩,
    ⟨(some 52), .mv (.t 63), none, 0⟩,
    ⟨(some 64), .ext 0 (.t 52), none, 0⟩,
    ⟨(some 65), .ext 1 (.t 52), none, 0⟩,
    ⟨(some 15), .new [.int .u32 0, .int .u16 0, .int .u32 0, .int .u16 0, .str ⟨#[]⟩], none, 0⟩,
    ⟨none, .st 5 (.t 15) (.t 64), none, 1⟩,
    ⟨(some 16), .mv (.t 65), none, 1⟩] 1 none) (.seq (.reg [
    ⟨(some 66), .mv (.t 13), none, 0⟩,
    ⟨(some 67), .bin .eql (.t 66) (.c (.p (.o (.int .i64 4)))), none, 0⟩,
    ⟨(some 68), .mv (.t 67), none, 0⟩,
    ⟨(some 69), .mv (.t 13), (some (68, false)), 0⟩,
    ⟨(some 70), .bin .eql (.t 69) (.c (.p (.o (.int .i64 5)))), (some (68, false)), 0⟩,
    ⟨(some 71), .pick (.t 68) (.c (.p (.o (.bool true)))) (.t 70), none, 0⟩,
    ⟨(some 72), .mv (.t 71), none, 0⟩,
    ⟨(some 73), .mv (.t 14), (some (72, false)), 0⟩,
    ⟨(some 74), .iad 1 (.t 73) (.c (.p (.o (.int .i64 6)))), (some (72, false)), 0⟩,
    ⟨(some 75), .ld none (.t 74), (some (72, false)), 0⟩,
    ⟨(some 76), .bin .eql (.t 75) (.c (.p (.o (.int .u8 0)))), (some (72, false)), 0⟩,
    ⟨(some 77), .mv (.t 76), (some (72, false)), 0⟩,
    ⟨(some 78), .mv (.t 14), (some (77, true)), 0⟩,
    ⟨(some 79), .iad 1 (.t 78) (.c (.p (.o (.int .i64 7)))), (some (77, true)), 0⟩,
    ⟨(some 80), .ld none (.t 79), (some (77, true)), 0⟩,
    ⟨(some 81), .bin .eql (.t 80) (.c (.p (.o (.int .u8 0)))), (some (77, true)), 0⟩,
    ⟨(some 82), .pick (.t 77) (.t 81) (.c (.p (.o (.bool false)))), (some (72, false)), 0⟩,
    ⟨(some 83), .pick (.t 72) (.c (.p (.o (.bool true)))) (.t 82), none, 0⟩,
    ⟨(some 17), .mv (.t 83), none, 0⟩] 0 none) (.seq (.seq (.reg [
    ⟨(some 84), .mv (.t 17), none, 0⟩,
    ⟨(some 85), .un .not (.t 84), none, 0⟩,
    ⟨(some 86), .mv (.t 85), none, 0⟩,
    ⟨(some 87), .mv (.t 16), (some (86, true)), 0⟩,
    ⟨(some 88), .bin .eql (.t 87) (.c (.p (.o (.int .i64 0)))), (some (86, true)), 0⟩,
    ⟨(some 89), .mv (.t 2), (some (86, true)), 0⟩,
    ⟨(some 90), .bin .eql (.t 89) (.c (.p (.o (.int .u8 0)))), (some (86, true)), 0⟩,
    ⟨(some 91), .eq .bool true (.t 88) (.t 90), (some (86, true)), 0⟩,
    ⟨(some 92), .pick (.t 86) (.t 91) (.c (.p (.o (.bool false)))), none, 0⟩] 0 none) (.cond (.t 92) (.seq (.reg [
    ⟨(some 10), .mv (.c (.p (.o (.bool false)))), none, 0⟩] 0 none) .ret) .skip)) (.seq (.reg [
    ⟨(some 93), .fad 0 (.t 5), none, 0⟩,
    ⟨(some 94), .fad 0 (.t 93), none, 0⟩,
    ⟨(some 95), .fad 0 (.t 94), none, 0⟩,
    ⟨(some 96), .ld none (.t 95), none, 0⟩,
    ⟨(some 97), .fad 0 (.t 5), none, 0⟩,
    ⟨(some 98), .fad 2 (.t 97), none, 0⟩,
    ⟨(some 99), .fad 0 (.t 98), none, 0⟩,
    ⟨(some 100), .ld none (.t 99), none, 0⟩,
    ⟨(some 18), .mv (.t 96), none, 0⟩,
    ⟨(some 19), .mv (.t 100), none, 0⟩] 0 (some [(0, 4), (1, 4), (2, 4), (3, 4), (0, 5), (1, 5), (2, 5), (3, 5), (0, 6), (1, 6), (2, 6), (3, 6), (0, 7), (1, 7), (2, 7), (3, 7), (4, 8), (5, 8), (6, 8), (7, 8)])) (.seq (.reg [
    ⟨(some 20), .mv (.c (.p (.o (.int .u16 0)))), none, 0⟩] 0 none) (.seq (.seq (.reg [
    ⟨(some 101), .mv (.t 4), none, 0⟩,
    ⟨(some 102), .bin .rem (.t 101) (.c (.p (.o (.int .u8 4)))), none, 0⟩] 0 none) (.block 0 (.seq (.reg [
    ⟨(some 113), .bin .eql (.t 102) (.c (.p (.o (.int .u8 0)))), none, 0⟩,
    ⟨(some 112), .mv (.t 113), none, 0⟩] 0 none) (.cond (.t 112) (.seq (.reg [
    ⟨(some 114), .mv (.t 18), none, 0⟩,
    ⟨(some 115), .cvi .u16 (.t 114), none, 0⟩,
    ⟨(some 20), .mv (.t 115), none, 0⟩] 0 none) (.reg [
    ⟨(some 116), .mv (.t 18), none, 0⟩,
    ⟨(some 117), .bin .shr (.t 116) (.c (.p (.o (.int .u64 16)))), none, 0⟩,
    ⟨(some 118), .bin .shl (.t 117) (.c (.p (.o (.int .u64 16)))), none, 0⟩,
    ⟨(some 119), .mv (.t 3), none, 0⟩,
    ⟨(some 120), .cvi .u32 (.t 119), none, 0⟩,
    ⟨(some 121), .bin .or (.t 118) (.t 120), none, 0⟩,
    ⟨(some 18), .mv (.t 121), none, 0⟩] 0 none)) (.seq (.reg [
    ⟨(some 123), .bin .eql (.t 102) (.c (.p (.o (.int .u8 1)))), none, 0⟩,
    ⟨(some 122), .mv (.t 123), none, 0⟩] 0 none) (.cond (.t 122) (.seq (.reg [
    ⟨(some 124), .mv (.t 18), none, 0⟩,
    ⟨(some 125), .bin .shr (.t 124) (.c (.p (.o (.int .u64 16)))), none, 0⟩,
    ⟨(some 126), .cvi .u16 (.t 125), none, 0⟩,
    ⟨(some 20), .mv (.t 126), none, 0⟩] 0 none) (.reg [
    ⟨(some 127), .mv (.t 18), none, 0⟩,
    ⟨(some 128), .bin .and (.t 127) (.c (.p (.o (.int .u32 65535)))), none, 0⟩,
    ⟨(some 129), .mv (.t 3), none, 0⟩,
    ⟨(some 130), .cvi .u32 (.t 129), none, 0⟩,
    ⟨(some 131), .bin .shl (.t 130) (.c (.p (.o (.int .u64 16)))), none, 0⟩,
    ⟨(some 132), .bin .or (.t 128) (.t 131), none, 0⟩,
    ⟨(some 18), .mv (.t 132), none, 0⟩] 0 none)) (.seq (.reg [
    ⟨(some 134), .bin .eql (.t 102) (.c (.p (.o (.int .u8 2)))), none, 0⟩,
    ⟨(some 133), .mv (.t 134), none, 0⟩] 0 none) (.cond (.t 133) (.seq (.reg [
    ⟨(some 135), .mv (.t 19), none, 0⟩,
    ⟨(some 136), .cvi .u16 (.t 135), none, 0⟩,
    ⟨(some 20), .mv (.t 136), none, 0⟩] 0 none) (.reg [
    ⟨(some 137), .mv (.t 19), none, 0⟩,
    ⟨(some 138), .bin .shr (.t 137) (.c (.p (.o (.int .u64 16)))), none, 0⟩,
    ⟨(some 139), .bin .shl (.t 138) (.c (.p (.o (.int .u64 16)))), none, 0⟩,
    ⟨(some 140), .mv (.t 3), none, 0⟩,
    ⟨(some 141), .cvi .u32 (.t 140), none, 0⟩,
    ⟨(some 142), .bin .or (.t 139) (.t 141), none, 0⟩,
    ⟨(some 19), .mv (.t 142), none, 0⟩] 0 none)) (.seq (.reg [
    ⟨(some 103), .mv (.t 19), none, 0⟩,
    ⟨(some 104), .bin .shr (.t 103) (.c (.p (.o (.int .u64 16)))), none, 0⟩,
    ⟨(some 105), .cvi .u16 (.t 104), none, 0⟩,
    ⟨(some 20), .mv (.t 105), none, 0⟩] 0 none) (.reg [
    ⟨(some 106), .mv (.t 19), none, 0⟩,
    ⟨(some 107), .bin .and (.t 106) (.c (.p (.o (.int .u32 65535)))), none, 0⟩,
    ⟨(some 108), .mv (.t 3), none, 0⟩,
    ⟨(some 109), .cvi .u32 (.t 108), none, 0⟩,
    ⟨(some 110), .bin .shl (.t 109) (.c (.p (.o (.int .u64 16)))), none, 0⟩,
    ⟨(some 111), .bin .or (.t 107) (.t 110), none, 0⟩,
    ⟨(some 19), .mv (.t 111), none, 0⟩] 0 none)))))))))) (.seq (.reg [
    ⟨(some 144), .mv (.t 18), none, 0⟩,
    ⟨(some 145), .mv (.t 19), none, 0⟩,
    ⟨(some 146), .mv (.t 11), none, 0⟩,
    ⟨(some 147), .call 31 [(.t 144), (.t 145), (.t 146)] 0, none, 0⟩,
    ⟨(some 143), .mv (.t 147), none, 0⟩,
    ⟨(some 148), .ext 0 (.t 143), none, 0⟩,
    ⟨(some 149), .ext 1 (.t 143), none, 0⟩,
    ⟨(some 21), .new [.int .u32 0, .int .u16 0, .int .u32 0, .int .u16 0, .str ⟨#[]⟩], none, 0⟩,
    ⟨none, .st 5 (.t 21) (.t 148), none, 1⟩,
    ⟨(some 22), .mv (.t 149), none, 1⟩] 1 none) (.seq (.reg [
    ⟨(some 150), .mv (.t 22), none, 0⟩,
    ⟨(some 151), .bin .eql (.t 150) (.c (.p (.o (.int .i64 0)))), none, 0⟩,
    ⟨(some 152), .mv (.t 20), none, 0⟩,
    ⟨(some 153), .mv (.t 3), none, 0⟩,
    ⟨(some 154), .bin .eql (.t 152) (.t 153), none, 0⟩,
    ⟨(some 155), .mv (.t 154), none, 0⟩,
    ⟨(some 156), .mv (.t 20), (some (155, false)), 0⟩,
    ⟨(some 157), .bin .rem (.t 156) (.c (.p (.o (.int .u16 65535)))), (some (155, false)), 0⟩,
    ⟨(some 158), .bin .eql (.t 157) (.c (.p (.o (.int .u16 0)))), (some (155, false)), 0⟩,
    ⟨(some 159), .mv (.t 158), (some (155, false)), 0⟩,
    ⟨(some 160), .mv (.t 3), (some (159, true)), 0⟩,
    ⟨(some 161), .bin .rem (.t 160) (.c (.p (.o (.int .u16 65535)))), (some (159, true)), 0⟩,
    ⟨(some 162), .bin .eql (.t 161) (.c (.p (.o (.int .u16 0)))), (some (159, true)), 0⟩,
    ⟨(some 163), .pick (.t 159) (.t 162) (.c (.p (.o (.bool false)))), (some (155, false)), 0⟩,
    ⟨(some 164), .pick (.t 155) (.c (.p (.o (.bool true)))) (.t 163), none, 0⟩,
    ⟨(some 165), .eq .bool false (.t 151) (.t 164), none, 0⟩,
    ⟨(some 166), .mv (.t 165), none, 0⟩,
    ⟨(some 167), .call 28 [] 0, (some (166, true)), 0⟩,
    ⟨(some 168), .pick (.t 166) (.t 167) (.c (.p (.o (.bool false)))), none, 0⟩,
    ⟨(some 10), .mv (.t 168), none, 0⟩] 0 none) .ret)))))))))))))))),
  [.tmp 10], 169, [0, 1, 2, 3, 4, 5, 10, 11, 12, 13, 14, 16, 17, 18, 19, 20, 22, 69, 70, 73, 74, 75, 76, 77, 78, 79, 80, 81, 82, 87, 88, 89, 90, 91, 102, 156, 157, 158, 159, 160, 161, 162, 163, 167]⟩
theorem ok_law15_UdpSpoilt : cFn Try.prog eqsT newsT vf_law15_UdpSpoilt.keep Try.f8 = some vf_law15_UdpSpoilt := by kernel_rfl
theorem enc_det (x p y q : Int) (d : ByteArray) (hd : d.size ≤ maxLen) (hx : 0 ≤ x ∧ x ≤ 4294967295) (hp : 0 ≤ p ∧ p ≤ 65535) (hy : 0 ≤ y ∧ y ≤ 4294967295) (hq : 0 ≤ q ∧ q ≤ 65535) :
    Det Try.prog 29 [.a (dgm x p y q d)] [] (.t [.o (.str (Sp.udpT x y p q d)), .o (.int .i64 (Sp.udpTe d))]) [] :=
  det_flat ent_udp_Encode rfl rfl fun w => udpEncode_all x p y q d w hd hx.1 (by omega) hy.1 (by omega) hp.1 hp.2 hq.1 hq.2
theorem dec_det (x y : Int) (s : ByteArray) (hs : s.size ≤ 140737488355000) (hx : 0 ≤ x ∧ x ≤ 4294967295) (hy : 0 ≤ y ∧ y ≤ 4294967295) :
    Det Try.prog 31 [.o (.int .u32 x), .o (.int .u32 y), .o (.str s)] [] (.t [.a (dgm (Sp.udpX x y s) (Sp.udpP x y s) (Sp.udpY x y s) (Sp.udpQ x y s) (Sp.udpD x y s)), .o (.int .i64 (Sp.udpE x y s))]) [] :=
  det_flat ent_udp_Decode rfl rfl fun w => udpDecode_any x y s w hs hx.1 (by omega) hy.1 (by omega)
theorem alive_det : Det Try.prog 28 [] [] (vB true) [] := det_flat ent_law15_alive rfl rfl fun w => alive15_any w
def cutS (s : ByteArray) (n : Int) : ByteArray := if n > s.size then s else s.extract 0 n.toNat
def behS (s : ByteArray) (n : Int) : ByteArray := if n > s.size then ⟨#[]⟩ else s.extract n.toNat s.size
theorem cut_det (s : ByteArray) (n : Int) (h0 : 0 ≤ n) (hs : s.size ≤ 140737488355328) : Det Try.prog 33 [.o (.str s), .o (.int .i64 n)] [] (vS (cutS s n)) [] := by
  refine can_of_W known mix Try.func33 (by kernel_rfl) ok_law15_cut (Nat.le_of_ble_eq_true rfl) ?_
  repeat' ((conv => whnf); first
    | ((with_reducible refine Look.mk ?_); refine ⟨_, rfl, ?_⟩)
    | ((with_reducible refine LookN.zeros ?_))
    | ((with_reducible refine LookN.bytes ?_ ?_); (simp; done))
    | ((with_reducible refine BytesW.bytes ?_))
    | ((with_reducible refine Look.byte ?_ ?_); omega)
    | ((with_reducible refine Look.setb ?_ ?_ ?_); exact bv8_bd _; omega)
    | ((with_reducible refine LookN.setb ?_ ?_ ?_); exact bv8_bd _; omega)
    | ((with_reducible refine LookN.mk ?_); refine ⟨_, rfl, ?_⟩)
    | ((with_reducible refine Need.mk ?_ ?_); first | rfl | trivial | omega | (exact ⟨rfl, by omega⟩) | (intro h; first | rfl | cases h) | (simp only [lenS_text, lenS_setN, lenS_zeros]; omega))
    | ((with_reducible refine BytesW.mk ?_); refine ⟨_, rfl, ?_⟩)
    | (with_reducible refine Test.tt ?_)
    | (with_reducible refine Test.ff ?_)
    | ((with_reducible refine Test.dt ?_ ?_); omega)
    | ((with_reducible refine Test.df ?_ ?_); omega)
    | (with_reducible refine Test.d (fun h => ?_) (fun h => ?_))
    | ((with_reducible refine Test.b ?_ ?_); (first | assumption | (simp; done) | rfl))
    | ((with_reducible refine Test.nb ?_ ?_); (first | assumption | (simp; done) | rfl))
    | (with_reducible refine Test.mk (fun h => ?_) (fun h => ?_))
    | (with_reducible refine Arith.bv8 ?_)
    | (with_reducible refine Arith.bv16 ?_)
    | (with_reducible refine Arith.bv32 ?_)
    | (with_reducible refine Arith.bv64 ?_)
    | ((with_reducible refine Arith.i64 ?_ ?_); omega)
    | ((with_reducible refine Arith.u64 ?_ ?_); omega)
    | ((with_reducible refine Arith.u32 ?_ ?_); omega)
    | ((with_reducible refine Arith.u16 ?_ ?_); omega)
    | ((with_reducible refine Arith.u8 ?_ ?_); omega)
    | ((with_reducible refine Arith.i32 ?_ ?_); omega)
    | (with_reducible refine Arith.mk ?_)
    | (with_reducible refine Ends.mk ?_))
  · exact ⟨by simp [cutS, h], rfl⟩
  · exact ⟨by simp [cutS, h], rfl⟩
theorem beh_det (s : ByteArray) (n : Int) (h0 : 0 ≤ n) (hs : s.size ≤ 140737488355328) : Det Try.prog 34 [.o (.str s), .o (.int .i64 n)] [] (vS (behS s n)) [] := by
  refine can_of_W known mix Try.func34 (by kernel_rfl) ok_law15_behind (Nat.le_of_ble_eq_true rfl) ?_
  repeat' ((conv => whnf); first
    | ((with_reducible refine Look.mk ?_); refine ⟨_, rfl, ?_⟩)
    | ((with_reducible refine LookN.zeros ?_))
    | ((with_reducible refine LookN.bytes ?_ ?_); (simp; done))
    | ((with_reducible refine BytesW.bytes ?_))
    | ((with_reducible refine Look.byte ?_ ?_); omega)
    | ((with_reducible refine Look.setb ?_ ?_ ?_); exact bv8_bd _; omega)
    | ((with_reducible refine LookN.setb ?_ ?_ ?_); exact bv8_bd _; omega)
    | ((with_reducible refine LookN.mk ?_); refine ⟨_, rfl, ?_⟩)
    | ((with_reducible refine Need.mk ?_ ?_); first | rfl | trivial | omega | (exact ⟨rfl, by omega⟩) | (intro h; first | rfl | cases h) | (simp only [lenS_text, lenS_setN, lenS_zeros]; omega))
    | ((with_reducible refine BytesW.mk ?_); refine ⟨_, rfl, ?_⟩)
    | (with_reducible refine Test.tt ?_)
    | (with_reducible refine Test.ff ?_)
    | ((with_reducible refine Test.dt ?_ ?_); omega)
    | ((with_reducible refine Test.df ?_ ?_); omega)
    | (with_reducible refine Test.d (fun h => ?_) (fun h => ?_))
    | ((with_reducible refine Test.b ?_ ?_); (first | assumption | (simp; done) | rfl))
    | ((with_reducible refine Test.nb ?_ ?_); (first | assumption | (simp; done) | rfl))
    | (with_reducible refine Test.mk (fun h => ?_) (fun h => ?_))
    | (with_reducible refine Arith.bv8 ?_)
    | (with_reducible refine Arith.bv16 ?_)
    | (with_reducible refine Arith.bv32 ?_)
    | (with_reducible refine Arith.bv64 ?_)
    | ((with_reducible refine Arith.i64 ?_ ?_); omega)
    | ((with_reducible refine Arith.u64 ?_ ?_); omega)
    | ((with_reducible refine Arith.u32 ?_ ?_); omega)
    | ((with_reducible refine Arith.u16 ?_ ?_); omega)
    | ((with_reducible refine Arith.u8 ?_ ?_); omega)
    | ((with_reducible refine Arith.i32 ?_ ?_); omega)
    | (with_reducible refine Arith.mk ?_)
    | (with_reducible refine Ends.mk ?_))
  · exact ⟨by simp [behS, h], rfl⟩
  · exact ⟨by simp [behS, h], rfl⟩
theorem ends_far (ov : Int) (d : ByteArray) (f k : Int) (hd : (4096 : Int) < d.size) : Can Try.prog 9 [.o (.int .i8 ov), .o (.str d), .o (.int .u32 f), .o (.int .u32 k)] [] (fun v _ => v = vB true) := by
  refine can_of_W known mix Try.func9 (by kernel_rfl) ok_law15_UdpEnds (Nat.le_of_ble_eq_true rfl) ?_
  repeat' ((conv => whnf); first
    | ((with_reducible refine Look.mk ?_); refine ⟨_, rfl, ?_⟩)
    | ((with_reducible refine LookN.zeros ?_))
    | ((with_reducible refine LookN.bytes ?_ ?_); (simp; done))
    | ((with_reducible refine BytesW.bytes ?_))
    | ((with_reducible refine Look.byte ?_ ?_); omega)
    | ((with_reducible refine Look.setb ?_ ?_ ?_); exact bv8_bd _; omega)
    | ((with_reducible refine LookN.setb ?_ ?_ ?_); exact bv8_bd _; omega)
    | ((with_reducible refine LookN.mk ?_); refine ⟨_, rfl, ?_⟩)
    | ((with_reducible refine Need.mk ?_ ?_); first | rfl | trivial | omega | (exact ⟨rfl, by omega⟩) | (intro h; first | rfl | cases h) | (simp only [lenS_text, lenS_setN, lenS_zeros]; omega))
    | ((with_reducible refine BytesW.mk ?_); refine ⟨_, rfl, ?_⟩)
    | (with_reducible refine CallW.det (alive_det) ?_)
    | (with_reducible refine Test.tt ?_)
    | (with_reducible refine Test.ff ?_)
    | ((with_reducible refine Test.dt ?_ ?_); omega)
    | ((with_reducible refine Test.df ?_ ?_); omega)
    | (with_reducible refine Test.d (fun h => ?_) (fun h => ?_))
    | ((with_reducible refine Test.b ?_ ?_); (first | assumption | (simp; done) | rfl))
    | ((with_reducible refine Test.nb ?_ ?_); (first | assumption | (simp; done) | rfl))
    | (with_reducible refine Test.mk (fun h => ?_) (fun h => ?_))
    | (with_reducible refine Arith.bv8 ?_)
    | (with_reducible refine Arith.bv16 ?_)
    | (with_reducible refine Arith.bv32 ?_)
    | (with_reducible refine Arith.bv64 ?_)
    | ((with_reducible refine Arith.i64 ?_ ?_); omega)
    | ((with_reducible refine Arith.u64 ?_ ?_); omega)
    | ((with_reducible refine Arith.u32 ?_ ?_); omega)
    | ((with_reducible refine Arith.u16 ?_ ?_); omega)
    | ((with_reducible refine Arith.u8 ?_ ?_); omega)
    | ((with_reducible refine Arith.i32 ?_ ?_); omega)
    | (with_reducible refine Arith.mk ?_)
    | (with_reducible refine Ends.mk ?_))
  all_goals rfl
theorem dec_ok (x y : Int) (s : ByteArray) (n : Nat) (hs : s.size ≤ 140737488355000) (hx : 0 ≤ x ∧ x ≤ 4294967295) (hy : 0 ≤ y ∧ y ≤ 4294967295) (h8 : 8 ≤ n) (hn : n ≤ s.size) (hn2 : n ≤ 65515) (h4 : Sp.word s 4 = n) (h6 : Sp.word s 6 = 0 ∨ Sp.udpR x y s = 65535) :
    Det Try.prog 31 [.o (.int .u32 x), .o (.int .u32 y), .o (.str s)] [] (.t [.a (dgm x (Sp.word s 0) y (Sp.word s 2) (s.extract 8 n)), .o (.int .i64 0)]) [] := by
  have D := dec_det x y s hs hx hy
  have u0 : Sp.u2 s 0 = Sp.word s 0 := Sp.u2_word s 0 (by omega)
  have u2 : Sp.u2 s 2 = Sp.word s 2 := Sp.u2_word s 2 (by omega)
  have u4 : Sp.u2 s 4 = Sp.word s 4 := Sp.u2_word s 4 (by omega)
  have u6 : Sp.u2 s 6 = Sp.word s 6 := Sp.u2_word s 6 (by omega)
  have hE : Sp.udpE x y s = 0 := by
    unfold Sp.udpE
    rw [u4, u6, h4, if_neg (by omega), if_neg (by omega), if_neg (by omega), if_neg (by omega)]
    rcases h6 with h | h
    · rw [if_pos h]
    · rw [if_pos h]; split <;> rfl
  unfold Sp.udpX Sp.udpY Sp.udpP Sp.udpQ Sp.udpD at D
  rw [if_pos hE, if_pos hE, if_pos hE, if_pos hE, if_pos hE, u0, u2, u4, h4, hE] at D
  exact D
theorem dec_own (x y p q : Int) (d : ByteArray) (f g : Int) (hx : 0 ≤ x ∧ x ≤ 4294967295) (hp : 0 ≤ p ∧ p ≤ 65535) (hy : 0 ≤ y ∧ y ≤ 4294967295) (hq : 0 ≤ q ∧ q ≤ 65535) (hf : 0 ≤ f ∧ f ≤ 4294967295) (hg : 0 ≤ g ∧ g ≤ 4294967295) (hd : d.size ≤ 65507)
    (h : (Sp.hs f + Sp.hs g - Sp.hs x - Sp.hs y) % 65535 = 0) :
    Det Try.prog 31 [.o (.int .u32 f), .o (.int .u32 g), .o (.str (Sp.udpB x y p q d))] [] (.t [.a (dgm f p g q d), .o (.int .i64 0)]) [] := by
  have hz := Sp.udpB_size x y p q d
  have D := dec_ok f g (Sp.udpB x y p q d) (8 + d.size) (by omega) hf hg (by omega) (by omega) (by omega) (by rw [Sp.word_B4 hd]; omega) (.inr (by
    have e4 : Sp.u2 (Sp.udpB x y p q d) 4 = 8 + d.size := (Sp.u2_word _ 4 (by omega)).trans (Sp.word_B4 hd)
    have := (Sp.total_mod f g hx hy hp hq hd hf hg).2 h
    unfold Sp.udpR
    rw [e4, Sp.extract_whole _ _ (by omega)]
    exact this))
  rw [Sp.word_B0 hp, Sp.word_B2 hq, Sp.data_B _ (by omega)] at D
  exact D
theorem ends_plain (x y p q : Int) (d : ByteArray) (hp : 0 ≤ p ∧ p ≤ 65535) (hq : 0 ≤ q ∧ q ≤ 65535) (hd : d.size ≤ 65507) (S : ByteArray) (hS : S = cutS (Sp.udpB x y p q d) 6 ++ ⟨#[0, 0]⟩ ++ behS (Sp.udpB x y p q d) 8) :
    S.size = 8 + d.size ∧ Sp.word S 0 = p ∧ Sp.word S 2 = q ∧ Sp.word S 4 = 8 + d.size ∧ Sp.word S 6 = 0 ∧ S.extract 8 (8 + d.size) = d := by
  have hz := Sp.udpB_size x y p q d
  have b0 := Sp.word_B0 (x := x) (y := y) (q := q) (d := d) hp
  have b2 := Sp.word_B2 (x := x) (y := y) (p := p) (d := d) hq
  have b4 := Sp.word_B4 (x := x) (y := y) (p := p) (q := q) hd
  have e1 : cutS (Sp.udpB x y p q d) 6 = Sp.udpFront p q (8 + d.size) := by
    unfold cutS
    rw [if_neg (by omega)]
    unfold Sp.udpB
    rw [show (6 : Int).toNat = 6 by rfl, Sp.extract_fore _ _ _ (by rw [ByteArray.size_append, Sp.udpFront_size]; omega), Sp.extract_fore _ _ _ (by rw [Sp.udpFront_size]; omega), Sp.extract_whole _ _ (by rw [Sp.udpFront_size]; omega)]
  have e2 : behS (Sp.udpB x y p q d) 8 = d := by
    unfold behS
    rw [if_neg (by omega)]
    exact Sp.data_B _ (by omega)
  have hF := Sp.udpFront_size p q (8 + d.size)
  have hF2 : (Sp.udpFront p q (8 + d.size) ++ ⟨#[0, 0]⟩).size = 8 := by rw [ByteArray.size_append, hF]; rfl
  have wl : ∀ k, k + 2 ≤ 6 → Sp.word S k = Sp.word (Sp.udpB x y p q d) k := fun k hk => by
    rw [hS, e1, Sp.word_left _ _ _ (by omega), Sp.word_left _ _ _ (by omega)]
    unfold Sp.udpB
    rw [Sp.word_left _ _ _ (by rw [ByteArray.size_append, hF]; omega), Sp.word_left _ _ _ (by omega)]
  refine ⟨?_, ?_, ?_, ?_, ?_, ?_⟩
  · rw [hS, e1, e2, ByteArray.size_append, hF2]
  · rw [wl 0 (by omega), b0]
  · rw [wl 2 (by omega), b2]
  · rw [wl 4 (by omega), b4]
  · rw [hS, e1, Sp.word_left _ _ _ (by omega)]
    have := Sp.word_right (Sp.udpFront p q (8 + d.size)) ⟨#[0, 0]⟩ 0
    rw [hF] at this
    rw [this]; decide +kernel
  · rw [hS, e1, e2]; exact Sp.extract_back _ _ _ _ hF2.symm (by omega)
theorem udpTe_iff (d : ByteArray) : Sp.udpTe d = if (65507 : Int) < d.size then 4 else 0 := rfl
set_option maxHeartbeats 1000000 in
theorem ends_near (ov : Int) (d : ByteArray) (f k : Int) (ho : -128 ≤ ov ∧ ov ≤ 127) (hd : d.size ≤ 4096) (hf : 0 ≤ f ∧ f ≤ 4294967295) (hk : 0 ≤ k ∧ k ≤ 4294967295) : Can Try.prog 9 [.o (.int .i8 ov), .o (.str d), .o (.int .u32 f), .o (.int .u32 k)] [] (fun v _ => v = vB true) := by
  have hz0 : (ByteArray.mk (List.replicate (65507 + ov).toNat 0).toArray).size = (65507 + ov).toNat := by simp [ByteArray.size]
  have E1 := enc_det 0 0 0 0 ⟨(List.replicate (65507 + ov).toNat 0).toArray⟩ (by rw [hz0]; unfold maxLen; omega) (by omega) (by omega) (by omega) (by omega)
  have E2 := enc_det f 7 k 9 d (by unfold maxLen; omega) hf (by omega) hk (by omega)
  have hT0 : ov ≤ 0 → (Sp.udpT 0 0 0 0 ⟨(List.replicate (65507 + ov).toNat 0).toArray⟩).size = 8 + 65507 + ov := fun h => by
    unfold Sp.udpT; rw [if_neg (by omega), Sp.udpB_size]; omega
  have he0 : Sp.udpTe ⟨(List.replicate (65507 + ov).toNat 0).toArray⟩ = if (0 : Int) < ov then 4 else 0 := by
    rw [udpTe_iff]; split <;> split <;> omega
  have hT : Sp.udpT f k 7 9 d = Sp.udpB f k 7 9 d := if_neg (by omega)
  rw [udpTe_iff d, if_neg (show ¬ (65507 : Int) < d.size by omega), hT] at E2
  rw [he0] at E1
  have hB := Sp.udpB_size f k 7 9 d
  have D2 := dec_own f k 7 9 d k f hf (by omega) hk (by omega) hk hf (by omega) (by omega)
  have C1 := cut_det (Sp.udpB f k 7 9 d) 6 (by omega) (by omega)
  have C2 := beh_det (Sp.udpB f k 7 9 d) 8 (by omega) (by omega)
  obtain ⟨S, hS⟩ : ∃ S, S = cutS (Sp.udpB f k 7 9 d) 6 ++ ⟨#[0, 0]⟩ ++ behS (Sp.udpB f k 7 9 d) 8 := ⟨_, rfl⟩
  obtain ⟨s1, s2, s3, s4, s5, s6⟩ := ends_plain f k 7 9 d (by omega) (by omega) (by omega) S hS
  have D1 := dec_ok f k S (8 + d.size) (by omega) hf hk (by omega) (by omega) (by omega) (by omega) (.inl s5)
  rw [s2, s3, s6] at D1
  rw [hS] at D1 s1
  have q1 : (cutS (Sp.udpB f k 7 9 d) 6).size + (ByteArray.mk #[0, 0]).size ≤ 9223372036854775807 := by
    simp only [ByteArray.size_append] at s1; omega
  have q2 : (cutS (Sp.udpB f k 7 9 d) 6 ++ (ByteArray.mk #[0, 0])).size + (behS (Sp.udpB f k 7 9 d) 8).size ≤ 9223372036854775807 := by
    rw [← ByteArray.size_append]; omega
  clear s1
  generalize Sp.udpT 0 0 0 0 ⟨(List.replicate (65507 + ov).toNat 0).toArray⟩ = T0 at *
  generalize Sp.udpB f k 7 9 d = T at *
  generalize cutS T 6 = T6 at *
  generalize behS T 8 = T8 at *
  generalize hg : (if (0 : Int) < ov then (4 : Int) else 0) = e0 at *
  have he : e0 = 0 ∧ ov ≤ 0 ∨ e0 ≠ 0 ∧ 0 < ov := by rw [← hg]; split <;> omega
  have hb : negB true ((e0 == 0) == decide (ov ≤ 0)) = false := by
    rcases he with ⟨h1, h2⟩ | ⟨h1, h2⟩
    · rw [beq_iff_eq.2 h1, decide_eq_true h2]; rfl
    · rw [beq_false_of_ne h1, decide_eq_false (by omega)]; rfl
  refine can_of_W known mix Try.func9 (by kernel_rfl) ok_law15_UdpEnds (Nat.le_of_ble_eq_true rfl) ?_
  repeat' ((conv => whnf); first
    | ((with_reducible refine Look.mk ?_); refine ⟨_, rfl, ?_⟩)
    | ((with_reducible refine LookN.zeros ?_))
    | ((with_reducible refine LookN.bytes ?_ ?_); (simp; done))
    | ((with_reducible refine BytesW.bytes ?_))
    | ((with_reducible refine Look.byte ?_ ?_); omega)
    | ((with_reducible refine Look.setb ?_ ?_ ?_); exact bv8_bd _; omega)
    | ((with_reducible refine LookN.setb ?_ ?_ ?_); exact bv8_bd _; omega)
    | ((with_reducible refine LookN.mk ?_); refine ⟨_, rfl, ?_⟩)
    | ((with_reducible refine Need.mk ?_ ?_); first | rfl | trivial | omega | (exact ⟨rfl, by omega⟩) | (intro h; first | rfl | cases h) | (simp only [lenS_text, lenS_setN, lenS_zeros]; omega))
    | ((with_reducible refine BytesW.mk ?_); refine ⟨_, rfl, ?_⟩)
    | (with_reducible refine CallW.det (alive_det) ?_)
    | (with_reducible refine CallW.det (E1) ?_)
    | (with_reducible refine CallW.det (E2) ?_)
    | (with_reducible refine CallW.det (C1) ?_)
    | (with_reducible refine CallW.det (C2) ?_)
    | (with_reducible refine CallW.det (D1) ?_)
    | (with_reducible refine CallW.det (D2) ?_)
    | (with_reducible refine Test.tt ?_)
    | (with_reducible refine Test.ff ?_)
    | ((with_reducible refine Test.dt ?_ ?_); omega)
    | ((with_reducible refine Test.df ?_ ?_); omega)
    | (with_reducible refine Test.d (fun h => ?_) (fun h => ?_))
    | ((with_reducible refine Test.b ?_ ?_); (first | assumption | (simp; done) | rfl))
    | ((with_reducible refine Test.nb ?_ ?_); (first | assumption | (simp; done) | rfl))
    | (with_reducible refine Test.mk (fun h => ?_) (fun h => ?_))
    | (with_reducible refine Arith.bv8 ?_)
    | (with_reducible refine Arith.bv16 ?_)
    | (with_reducible refine Arith.bv32 ?_)
    | (with_reducible refine Arith.bv64 ?_)
    | ((with_reducible refine Arith.i64 ?_ ?_); omega)
    | ((with_reducible refine Arith.u64 ?_ ?_); omega)
    | ((with_reducible refine Arith.u32 ?_ ?_); omega)
    | ((with_reducible refine Arith.u16 ?_ ?_); omega)
    | ((with_reducible refine Arith.u8 ?_ ?_); omega)
    | ((with_reducible refine Arith.i32 ?_ ?_); omega)
    | (with_reducible refine Arith.mk ?_)
    | (with_reducible refine Ends.mk ?_))
  all_goals clear E1 E2 C1 C2 D1 D2 q1 q2 hS s6 hz0 hg he0
  all_goals first | rfl | (exfalso; rcases he with he | he <;> simp_all [negB] <;> omega)
theorem ends_row (ov : Int) (d : ByteArray) (f k : Int) (w : World) (ho : -128 ≤ ov ∧ ov ≤ 127) (hd : d.size ≤ maxLen) (hf : 0 ≤ f ∧ f ≤ 4294967295) (hk : 0 ≤ k ∧ k ≤ 4294967295) :
    Calls Try.prog 9 #[.int .i8 ov, .string d, .int .u32 f, .int .u32 k] w fun e w' => e = .returned (.bool true) ∧ Below w.heap.size w w' := by
  by_cases h : d.size ≤ 4096
  · exact calls_of_can (ends_near ov d f k ho h hf hk) rfl rfl w
  · exact calls_of_can (ends_far ov d f k (by omega)) rfl rfl w
theorem spoilt_far (x p y q : Int) (d : ByteArray) (at_ by_ bits which : Int) (hd : (4096 : Int) < d.size) : Can Try.prog 8 [.a (dgm x p y q d), .o (.int .u16 at_), .o (.int .u8 by_), .o (.int .u16 bits), .o (.int .u8 which)] [] (fun v _ => v = vB true) := by
  refine can_of_W known mix Try.func8 (by kernel_rfl) ok_law15_UdpSpoilt (Nat.le_of_ble_eq_true rfl) ?_
  repeat' ((conv => whnf); first
    | ((with_reducible refine Look.mk ?_); refine ⟨_, rfl, ?_⟩)
    | ((with_reducible refine LookN.zeros ?_))
    | ((with_reducible refine LookN.bytes ?_ ?_); (simp; done))
    | ((with_reducible refine BytesW.bytes ?_))
    | ((with_reducible refine Look.byte ?_ ?_); omega)
    | ((with_reducible refine Look.setb ?_ ?_ ?_); exact bv8_bd _; omega)
    | ((with_reducible refine LookN.setb ?_ ?_ ?_); exact bv8_bd _; omega)
    | ((with_reducible refine LookN.mk ?_); refine ⟨_, rfl, ?_⟩)
    | ((with_reducible refine Need.mk ?_ ?_); first | rfl | trivial | omega | (exact ⟨rfl, by omega⟩) | (intro h; first | rfl | cases h) | (simp only [lenS_text, lenS_setN, lenS_zeros]; omega))
    | ((with_reducible refine BytesW.mk ?_); refine ⟨_, rfl, ?_⟩)
    | (with_reducible refine CallW.det (alive_det) ?_)
    | (with_reducible refine Test.tt ?_)
    | (with_reducible refine Test.ff ?_)
    | ((with_reducible refine Test.dt ?_ ?_); omega)
    | ((with_reducible refine Test.df ?_ ?_); omega)
    | (with_reducible refine Test.d (fun h => ?_) (fun h => ?_))
    | ((with_reducible refine Test.b ?_ ?_); (first | assumption | (simp; done) | rfl))
    | ((with_reducible refine Test.nb ?_ ?_); (first | assumption | (simp; done) | rfl))
    | (with_reducible refine Test.mk (fun h => ?_) (fun h => ?_))
    | (with_reducible refine Arith.bv8 ?_)
    | (with_reducible refine Arith.bv16 ?_)
    | (with_reducible refine Arith.bv32 ?_)
    | (with_reducible refine Arith.bv64 ?_)
    | ((with_reducible refine Arith.i64 ?_ ?_); omega)
    | ((with_reducible refine Arith.u64 ?_ ?_); omega)
    | ((with_reducible refine Arith.u32 ?_ ?_); omega)
    | ((with_reducible refine Arith.u16 ?_ ?_); omega)
    | ((with_reducible refine Arith.u8 ?_ ?_); omega)
    | ((with_reducible refine Arith.i32 ?_ ?_); omega)
    | (with_reducible refine Arith.mk ?_)
    | (with_reducible refine Ends.mk ?_))
  all_goals rfl
theorem hs_lo (x b : Int) (hx : 0 ≤ x ∧ x ≤ 4294967295) (hb : 0 ≤ b ∧ b ≤ 65535) : Sp.hs (x / 65536 * 65536 + b) - Sp.hs x = b - x % 65536 := by unfold Sp.hs; omega
theorem hs_hi (x b : Int) (hx : 0 ≤ x ∧ x ≤ 4294967295) (hb : 0 ≤ b ∧ b ≤ 65535) : Sp.hs (b * 65536 + x % 65536) - Sp.hs x = b - x / 65536 := by unfold Sp.hs; omega
theorem tell (e w b : Int) (hw : 0 ≤ w ∧ w ≤ 65535) (hb : 0 ≤ b ∧ b ≤ 65535) (h : e = 0 ↔ (b - w) % 65535 = 0) : (e == 0) = (w == b || (w.tmod 65535 == 0 && b.tmod 65535 == 0)) := by
  rw [Int.tmod_eq_emod_of_nonneg hw.1, Int.tmod_eq_emod_of_nonneg hb.1]
  by_cases h1 : e = 0
  · have := h.1 h1
    rw [beq_iff_eq.2 h1]
    by_cases h2 : w = b
    · rw [beq_iff_eq.2 h2]; rfl
    · have a1 : w % 65535 = 0 := by omega
      have a2 : b % 65535 = 0 := by omega
      rw [beq_iff_eq.2 a1, beq_iff_eq.2 a2]; simp
  · have h3 : ¬ (b - w) % 65535 = 0 := fun h' => h1 (h.2 h')
    have h2 : w ≠ b := by omega
    rw [beq_false_of_ne h1, beq_false_of_ne h2]
    by_cases a1 : w % 65535 = 0
    · have a2 : b % 65535 ≠ 0 := by omega
      rw [beq_false_of_ne a2]; simp
    · rw [beq_false_of_ne a1]; rfl
theorem wrap16_lo (x : Int) : IntKind.u16.wrap x = x % 65536 := by rw [IntKind.wrap_u16]
theorem wrap16_hi (x : Int) (hx : 0 ≤ x ∧ x ≤ 4294967295) : IntKind.u16.wrap (x.fdiv (2 ^ min (Int.toNat 16) IntKind.u32.bits)) = x / 65536 := by
  rw [show (2 : Int) ^ min (Int.toNat 16) IntKind.u32.bits = 65536 from rfl, Int.fdiv_eq_ediv_of_nonneg _ (by decide), IntKind.wrap_u16]; omega
theorem turned (x p y q bits : Int) (d : ByteArray) (hx : 0 ≤ x ∧ x ≤ 4294967295) (hp : 0 ≤ p ∧ p ≤ 65535) (hy : 0 ≤ y ∧ y ≤ 4294967295) (hq : 0 ≤ q ∧ q ≤ 65535) (hd : d.size ≤ 65507) (hb : 0 ≤ bits ∧ bits ≤ 65535) :
    (Sp.udpE (((BitVec.ofInt IntKind.u32.bits (IntKind.u32.wrap (x.fdiv (2 ^ min (Int.toNat 16) IntKind.u32.bits) * 2 ^ min (Int.toNat 16) IntKind.u32.bits)) ||| BitVec.ofInt IntKind.u32.bits bits).toNat : Nat) : Int) y (Sp.udpB x y p q d) == 0) = (IntKind.u16.wrap x == bits || ((IntKind.u16.wrap x).tmod 65535 == 0 && bits.tmod 65535 == 0)) ∧
    (Sp.udpE (((BitVec.ofInt IntKind.u32.bits (((BitVec.ofInt IntKind.u32.bits x &&& BitVec.ofInt IntKind.u32.bits 65535).toNat : Nat) : Int) ||| BitVec.ofInt IntKind.u32.bits (IntKind.u32.wrap (bits * 2 ^ min (Int.toNat 16) IntKind.u32.bits))).toNat : Nat) : Int) y (Sp.udpB x y p q d) == 0) = (IntKind.u16.wrap (x.fdiv (2 ^ min (Int.toNat 16) IntKind.u32.bits)) == bits || ((IntKind.u16.wrap (x.fdiv (2 ^ min (Int.toNat 16) IntKind.u32.bits))).tmod 65535 == 0 && bits.tmod 65535 == 0)) ∧
    (Sp.udpE x (((BitVec.ofInt IntKind.u32.bits (IntKind.u32.wrap (y.fdiv (2 ^ min (Int.toNat 16) IntKind.u32.bits) * 2 ^ min (Int.toNat 16) IntKind.u32.bits)) ||| BitVec.ofInt IntKind.u32.bits bits).toNat : Nat) : Int) (Sp.udpB x y p q d) == 0) = (IntKind.u16.wrap y == bits || ((IntKind.u16.wrap y).tmod 65535 == 0 && bits.tmod 65535 == 0)) ∧
    (Sp.udpE x (((BitVec.ofInt IntKind.u32.bits (((BitVec.ofInt IntKind.u32.bits y &&& BitVec.ofInt IntKind.u32.bits 65535).toNat : Nat) : Int) ||| BitVec.ofInt IntKind.u32.bits (IntKind.u32.wrap (bits * 2 ^ min (Int.toNat 16) IntKind.u32.bits))).toNat : Nat) : Int) (Sp.udpB x y p q d) == 0) = (IntKind.u16.wrap (y.fdiv (2 ^ min (Int.toNat 16) IntKind.u32.bits)) == bits || ((IntKind.u16.wrap (y.fdiv (2 ^ min (Int.toNat 16) IntKind.u32.bits))).tmod 65535 == 0 && bits.tmod 65535 == 0)) := by
  rw [lo32 x bits hx hb, hi32 x bits hx hb, lo32 y bits hy hb, hi32 y bits hy hb, wrap16_lo, wrap16_hi x hx, wrap16_lo, wrap16_hi y hy]
  have a := hs_lo x bits hx hb
  have b := hs_hi x bits hx hb
  have c := hs_lo y bits hy hb
  have e := hs_hi y bits hy hb
  refine ⟨tell _ _ _ (by omega) hb ?_, tell _ _ _ (by omega) hb ?_, tell _ _ _ (by omega) hb ?_, tell _ _ _ (by omega) hb ?_⟩
  · rw [Sp.udpE_own _ _ hx hy hp hq hd (by omega) hy]; constructor <;> intro h <;> omega
  · rw [Sp.udpE_own _ _ hx hy hp hq hd (by omega) hy]; constructor <;> intro h <;> omega
  · rw [Sp.udpE_own _ _ hx hy hp hq hd hx (by omega)]; constructor <;> intro h <;> omega
  · rw [Sp.udpE_own _ _ hx hy hp hq hd hx (by omega)]; constructor <;> intro h <;> omega
theorem bt_setB (s : ByteArray) (k : Nat) (v : Int) (hv : 0 ≤ v ∧ v ≤ 255) (hk : k < s.size) (i : Nat) : Sp.bt (setB s k v) i = if i = k then v else Sp.bt s i := by
  unfold Sp.bt setB
  simp only [List.toList_toArray, List.getD_eq_getElem?_getD, List.getElem?_set]
  by_cases h : i = k
  · subst h
    rw [if_pos rfl, if_pos rfl, if_pos (by simpa using hk)]
    simp; omega
  · rw [if_neg (fun e => h e.symm), if_neg h]
theorem spoilt_told (x p y q at_ by_ : Int) (d T : ByteArray) (hx : 0 ≤ x ∧ x ≤ 4294967295) (hp : 0 ≤ p ∧ p ≤ 65535) (hy : 0 ≤ y ∧ y ≤ 4294967295) (hq : 0 ≤ q ∧ q ≤ 65535) (hd : d.size ≤ 65507) (hT : T = Sp.udpB x y p q d) (hk : 0 ≤ at_.tmod T.size ∧ at_.tmod T.size < T.size) (hb : 0 ≤ by_ ∧ by_ ≤ 255)
    (h4 : (at_.tmod T.size == 4) = false) (h5 : (at_.tmod T.size == 5) = false) (h6 : (bAt (setB T (0 + (at_.tmod T.size).toNat * 1) (((BitVec.ofInt IntKind.u8.bits (bAt T (0 + (at_.tmod T.size).toNat * 1)) ^^^ BitVec.ofInt IntKind.u8.bits by_).toNat : Nat) : Int)) 6 == 0) = false ∨ (bAt (setB T (0 + (at_.tmod T.size).toNat * 1) (((BitVec.ofInt IntKind.u8.bits (bAt T (0 + (at_.tmod T.size).toNat * 1)) ^^^ BitVec.ofInt IntKind.u8.bits by_).toNat : Nat) : Int)) 7 == 0) = false) : (Sp.udpE x y (setB T (0 + (at_.tmod T.size).toNat * 1) (((BitVec.ofInt IntKind.u8.bits (bAt T (0 + (at_.tmod T.size).toNat * 1)) ^^^ BitVec.ofInt IntKind.u8.bits by_).toNat : Nat) : Int)) == 0) = (by_ == 0) := by
  have hz := Sp.udpB_size x y p q d
  rw [← hT] at hz
  have hKK : (0 + (at_.tmod T.size).toNat * 1) = (at_.tmod T.size).toNat := by omega
  rw [hKK] at h6 ⊢
  obtain ⟨k, hk'⟩ : ∃ k : Nat, (at_.tmod T.size).toNat = k := ⟨_, rfl⟩
  have e4 : k ≠ 4 := fun e => by rw [show at_.tmod T.size = 4 by omega] at h4; cases h4
  have e5 : k ≠ 5 := fun e => by rw [show at_.tmod T.size = 5 by omega] at h5; cases h5
  rw [hk'] at h6 ⊢
  have hkz : k < 8 + d.size := by omega
  generalize hv : (((BitVec.ofInt IntKind.u8.bits (bAt T k) ^^^ BitVec.ofInt IntKind.u8.bits by_).toNat : Nat) : Int) = v at *
  have hvb : 0 ≤ v ∧ v ≤ 255 := hv ▸ bv8_bd _
  have hbt := bAt_bd T k
  have hsame : v = bAt T k ↔ by_ = 0 := hv ▸ bxor_same _ _ _ hbt.1 (show _ < (256 : Int) by omega) hb.1 (show _ < (256 : Int) by omega)
  have c6 := Sp.bt_bd (setB T k v) 6
  have c7 := Sp.bt_bd (setB T k v) (6 + 1)
  have h6' : Sp.word (setB T k v) 6 ≠ 0 := fun e => by
    unfold Sp.word at e
    rcases h6 with h | h
    · rw [show bAt (setB T k v) 6 = 0 from (show Sp.bt (setB T k v) 6 = 0 by omega)] at h; cases h
    · rw [show bAt (setB T k v) 7 = 0 from (show Sp.bt (setB T k v) (6 + 1) = 0 by omega)] at h; cases h
  have key := Sp.udpE_spoilt (setB T k v) k v hx hy hp hq hd (by rw [← hT]; exact bt_setB T k v hvb (by omega)) hkz (by rw [setB_size]; exact hz) ⟨hvb.1, by omega⟩ e4 e5 h6'
  rw [← hT] at key
  by_cases h0 : by_ = 0
  · rw [beq_iff_eq.2 h0, beq_iff_eq.2 (key.2 (hsame.2 h0))]
  · rw [beq_false_of_ne h0, beq_false_of_ne (fun e => h0 (hsame.1 (key.1 e)))]
set_option maxHeartbeats 2000000 in
theorem spoilt_near (x p y q : Int) (d : ByteArray) (at_ by_ bits which : Int) (hd : d.size ≤ 4096) (hx : 0 ≤ x ∧ x ≤ 4294967295) (hp : 0 ≤ p ∧ p ≤ 65535) (hy : 0 ≤ y ∧ y ≤ 4294967295) (hq : 0 ≤ q ∧ q ≤ 65535) (ha : 0 ≤ at_ ∧ at_ ≤ 65535) (hb : 0 ≤ by_ ∧ by_ ≤ 255) (hbits : 0 ≤ bits ∧ bits ≤ 65535) (hw : 0 ≤ which ∧ which ≤ 255) :
    Can Try.prog 8 [.a (dgm x p y q d), .o (.int .u16 at_), .o (.int .u8 by_), .o (.int .u16 bits), .o (.int .u8 which)] [] (fun v _ => v = vB true) := by
  have E := enc_det x p y q d (by unfold maxLen; omega) hx hp hy hq
  have hT : Sp.udpT x y p q d = Sp.udpB x y p q d := if_neg (by omega)
  rw [udpTe_iff d, if_neg (show ¬ (65507 : Int) < d.size by omega), hT] at E
  have hB := Sp.udpB_size x y p q d
  obtain ⟨t0, t1, t2, t3⟩ := turned x p y q bits d hx hp hy hq (by omega) hbits
  obtain ⟨T, hTT⟩ : ∃ T, T = Sp.udpB x y p q d := ⟨_, rfl⟩
  rw [← hTT] at E hB t0 t1 t2 t3
  have hk : 0 ≤ at_.tmod T.size ∧ at_.tmod T.size < T.size := ⟨Int.tmod_nonneg _ ha.1, Int.tmod_lt_of_pos _ (by omega)⟩
  have told := spoilt_told x p y q at_ by_ d T hx hp hy hq (by omega) hTT hk hb
  have Dt : ∀ t : ByteArray, t.size = T.size → Det Try.prog 31 [.o (.int .u32 x), .o (.int .u32 y), .o (.str ⟨t.data.toList.toArray⟩)] [] (.t [.a (dgm (Sp.udpX x y t) (Sp.udpP x y t) (Sp.udpY x y t) (Sp.udpQ x y t) (Sp.udpD x y t)), .o (.int .i64 (Sp.udpE x y t))]) [] :=
    fun t ht => dec_det x y t (by omega) hx hy
  clear hTT hT
  refine can_of_W known mix Try.func8 (by kernel_rfl) ok_law15_UdpSpoilt (Nat.le_of_ble_eq_true rfl) ?_
  repeat' ((conv => whnf); first
    | ((with_reducible refine Look.mk ?_); refine ⟨_, rfl, ?_⟩)
    | ((with_reducible refine LookN.zeros ?_))
    | ((with_reducible refine LookN.bytes ?_ ?_); (simp; done))
    | ((with_reducible refine BytesW.bytes ?_))
    | ((with_reducible refine Look.byte ?_ ?_); omega)
    | ((with_reducible refine Look.setb ?_ ?_ ?_); exact bv8_bd _; omega)
    | ((with_reducible refine LookN.setb ?_ ?_ ?_); exact bv8_bd _; omega)
    | ((with_reducible refine LookN.mk ?_); refine ⟨_, rfl, ?_⟩)
    | ((with_reducible refine Need.mk ?_ ?_); first | rfl | trivial | omega | (exact ⟨rfl, by omega⟩) | (intro h; first | rfl | cases h) | (simp only [lenS_text, lenS_setN, lenS_zeros]; omega))
    | ((with_reducible refine BytesW.mk ?_); refine ⟨_, rfl, ?_⟩)
    | (with_reducible refine CallW.det (alive_det) ?_)
    | (with_reducible refine CallW.det (E) ?_)
    | (with_reducible refine CallW.det (Dt _ (setB_size _ _ _)) ?_)
    | (with_reducible refine CallW.det (dec_det _ _ _ (by omega) (by first | omega | exact bv32_bd _ | exact wrap_u32_bd _) (by first | omega | exact bv32_bd _ | exact wrap_u32_bd _)) ?_)
    | (with_reducible refine Test.tt ?_)
    | (with_reducible refine Test.ff ?_)
    | ((with_reducible refine Test.dt ?_ ?_); omega)
    | ((with_reducible refine Test.df ?_ ?_); omega)
    | (with_reducible refine Test.d (fun h => ?_) (fun h => ?_))
    | ((with_reducible refine Test.b ?_ ?_); (first | assumption | (simp; done) | rfl))
    | ((with_reducible refine Test.nb ?_ ?_); (first | assumption | (simp; done) | rfl))
    | (with_reducible refine Test.mk (fun h => ?_) (fun h => ?_))
    | (with_reducible refine Arith.bv8 ?_)
    | (with_reducible refine Arith.bv16 ?_)
    | (with_reducible refine Arith.bv32 ?_)
    | (with_reducible refine Arith.bv64 ?_)
    | ((with_reducible refine Arith.i64 ?_ ?_); omega)
    | ((with_reducible refine Arith.u64 ?_ ?_); omega)
    | ((with_reducible refine Arith.u32 ?_ ?_); omega)
    | ((with_reducible refine Arith.u16 ?_ ?_); omega)
    | ((with_reducible refine Arith.u8 ?_ ?_); omega)
    | ((with_reducible refine Arith.i32 ?_ ?_); omega)
    | (with_reducible refine Arith.mk ?_)
    | (with_reducible refine Ends.mk ?_))
  all_goals first | rfl | (exfalso; simp_all [negB]; done)
theorem spoilt_row (x p y q : Int) (d : ByteArray) (at_ by_ bits which : Int) (w : World) (hx : 0 ≤ x ∧ x ≤ 4294967295) (hp : 0 ≤ p ∧ p ≤ 65535) (hy : 0 ≤ y ∧ y ≤ 4294967295) (hq : 0 ≤ q ∧ q ≤ 65535) (hd : d.size ≤ maxLen) (ha : 0 ≤ at_ ∧ at_ ≤ 65535) (hb : 0 ≤ by_ ∧ by_ ≤ 255) (hbits : 0 ≤ bits ∧ bits ≤ 65535) (hw : 0 ≤ which ∧ which ≤ 255) :
    Calls Try.prog 8 #[.agg #[.int .u32 x, .int .u16 p, .int .u32 y, .int .u16 q, .string d], .int .u16 at_, .int .u8 by_, .int .u16 bits, .int .u8 which] w fun e w' => e = .returned (.bool true) ∧ Below w.heap.size w w' := by
  by_cases h : d.size ≤ 4096
  · exact calls_of_can (spoilt_near x p y q d at_ by_ bits which h hx hp hy hq ha hb hbits hw) rfl rfl w
  · exact calls_of_can (spoilt_far x p y q d at_ by_ bits which (by omega)) rfl rfl w
end L15
end Go.Proofs.Ytlpeefemffmpmaa.VM
