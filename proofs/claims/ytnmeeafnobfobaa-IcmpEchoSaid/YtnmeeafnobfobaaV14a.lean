/- law 14 by the evaluator: messages. -/
import Derived.Test.YtnmeeafnobfobaaV10a
namespace Go.Proofs.Ytnmeeafnobfobaa.VM
namespace G2
open Go.RowKit
set_option linter.unusedVariables false
set_option linter.unusedSimpArgs false
set_option maxRecDepth 100000
def vf_icmp_Encode : VFn := ⟨(.seq (.reg [
    ⟨(some 1), .box (.t 0), none, 0⟩,
    ⟨(some 2), .mv (.c (.p (.o (.str ⟨#[]⟩)))), none, 1⟩,
    ⟨(some 3), .mv (.c (.p (.o (.int .i64 0)))), none, 1⟩] 1 none) (.seq (.seq (.reg [
    ⟨(some 6), .fad 3 (.t 1), none, 0⟩,
    ⟨(some 7), .ld none (.t 6), none, 0⟩,
    ⟨(some 8), .len false (.t 7), none, 0⟩,
    ⟨(some 9), .bin .gtr (.t 8) (.c (.p (.o (.int .i64 65507)))), none, 0⟩] 0 none) (.cond (.t 9) (.seq (.reg [
    ⟨(some 2), .mv (.c (.p (.o (.str ⟨#[]⟩)))), none, 0⟩,
    ⟨(some 3), .mv (.c (.p (.o (.int .i64 4)))), none, 0⟩] 0 none) .ret) .skip)) (.seq (.reg [
    ⟨(some 10), .fad 0 (.t 1), none, 0⟩,
    ⟨(some 11), .ld none (.t 10), none, 0⟩,
    ⟨(some 12), .fad 1 (.t 1), none, 0⟩,
    ⟨(some 13), .ld none (.t 12), none, 0⟩,
    ⟨(some 14), .bsl 2 [.int .u8 0, .int .u8 0] [(0, 1, (.t 11)), (1, 1, (.t 13))], none, 0⟩,
    ⟨(some 15), .b2s (.t 14), none, 1⟩,
    ⟨(some 16), .fad 2 (.t 1), none, 1⟩,
    ⟨(some 17), .ld none (.t 16), none, 1⟩,
    ⟨(some 18), .cvi .u64 (.t 17), none, 1⟩,
    ⟨(some 19), .call 44 [(.t 18), (.c (.p (.o (.int .i64 4))))] 0, none, 1⟩,
    ⟨(some 20), .fad 3 (.t 1), none, 1⟩,
    ⟨(some 21), .ld none (.t 20), none, 1⟩,
    ⟨(some 22), .bin .add (.t 19) (.t 21), none, 1⟩,
    ⟨(some 4), .mv (.t 15), none, 1⟩,
    ⟨(some 5), .mv (.t 22), none, 1⟩] 1 (some [(0, 2), (1, 2), (0, 3), (1, 3), (0, 6), (1, 6), (2, 6), (3, 6), (4, 6), (5, 6), (0, 7), (1, 7), (2, 7), (3, 7), (4, 7), (5, 7), (0, 8), (1, 8), (2, 8), (3, 8), (4, 8), (5, 8), (0, 9), (1, 9), (2, 9), (3, 9), (4, 9), (5, 9), (0, 10), (1, 10), (2, 10), (3, 10), (4, 10), (5, 10), (6, 10), (7, 10), (8, 10), (9, 10), (0, 11), (1, 11), (2, 11), (3, 11), (4, 11), (5, 11), (6, 11), (7, 11), (8, 11), (9, 11), (0, 12), (1, 12), (2, 12), (3, 12), (4, 12), (5, 12), (10, 13), (11, 13), (12, 13)])) (.seq (.reg [
    ⟨(some 23), .mv (.t 4), none, 0⟩,
    ⟨(some 24), .mv (.t 4), none, 0⟩,
    ⟨(some 25), .mv (.t 5), none, 0⟩,
    ⟨(some 26), .bsl 2 [.str ⟨#[]⟩, .str ⟨#[]⟩] [(0, 1, (.t 24)), (1, 1, (.t 25))], none, 0⟩,
    ⟨(some 27), .call 45 [(.t 26)] 0, none, 1⟩,
    ⟨(some 28), .cvi .u64 (.t 27), none, 1⟩,
    ⟨(some 29), .call 44 [(.t 28), (.c (.p (.o (.int .i64 2))))] 0, none, 1⟩,
    ⟨(some 30), .bin .add (.t 23) (.t 29), none, 1⟩,
    ⟨(some 31), .mv (.t 5), none, 1⟩,
    ⟨(some 32), .bin .add (.t 30) (.t 31), none, 1⟩,
    ⟨(some 2), .mv (.t 32), none, 1⟩,
    ⟨(some 3), .mv (.c (.p (.o (.int .i64 0)))), none, 1⟩] 1 none) .ret)))),
  [.tmp 2, .tmp 3], 33, [0, 1, 2, 3, 4, 5]⟩
theorem ok_icmp_Encode : cFn Try.prog eqsT newsT vf_icmp_Encode.keep Try.f15 = some vf_icmp_Encode := by kernel_rfl
def vf_icmp_Decode : VFn := ⟨(.seq (.reg [
    ⟨(some 2), .new [.int .u8 0, .int .u8 0, .int .u32 0, .str ⟨#[]⟩], none, 0⟩,
    ⟨(some 3), .mv (.c (.p (.o (.int .i64 0)))), none, 1⟩] 1 none) (.seq (.block 0 (.seq (.reg [
    ⟨(some 7), .mv (.t 0), none, 0⟩,
    ⟨(some 8), .len false (.t 7), none, 0⟩,
    ⟨(some 9), .bin .lss (.t 8) (.c (.p (.o (.int .i64 8)))), none, 0⟩,
    ⟨(some 6), .mv (.t 9), none, 0⟩] 0 none) (.cond (.t 6) (.seq (.reg [
    ⟨(some 10), .bld [.int .u8 0, .int .u8 0, .int .u32 0, .str ⟨#[]⟩] [], none, 0⟩,
    ⟨none, .st 4 (.t 2) (.t 10), none, 0⟩,
    ⟨(some 3), .mv (.c (.p (.o (.int .i64 10)))), none, 0⟩] 0 none) .ret) (.seq (.reg [
    ⟨(some 12), .mv (.t 0), none, 0⟩,
    ⟨(some 13), .bsl 1 [.str ⟨#[]⟩] [(0, 1, (.t 12))], none, 0⟩,
    ⟨(some 14), .call 48 [(.t 13)] 0, none, 1⟩,
    ⟨(some 15), .un .not (.t 14), none, 1⟩,
    ⟨(some 11), .mv (.t 15), none, 1⟩] 1 none) (.cond (.t 11) (.seq (.reg [
    ⟨(some 16), .bld [.int .u8 0, .int .u8 0, .int .u32 0, .str ⟨#[]⟩] [], none, 0⟩,
    ⟨none, .st 4 (.t 2) (.t 16), none, 0⟩,
    ⟨(some 3), .mv (.c (.p (.o (.int .i64 101)))), none, 0⟩] 0 none) .ret) .skip))))) (.seq (.reg [
    ⟨(some 18), .mv (.t 0), none, 0⟩,
    ⟨(some 19), .call 49 [(.t 18), (.c (.p (.o (.int .i64 4))))] 0, none, 0⟩,
    ⟨(some 17), .mv (.t 19), none, 0⟩,
    ⟨(some 20), .ext 0 (.t 17), none, 0⟩,
    ⟨(some 21), .ext 1 (.t 17), none, 0⟩,
    ⟨(some 4), .mv (.t 20), none, 0⟩,
    ⟨(some 5), .mv (.t 21), none, 0⟩] 0 none) (.seq (.reg [
    ⟨(some 22), .mv (.t 0), none, 0⟩,
    ⟨(some 23), .ixs (.t 22) (.c (.p (.o (.int .i64 0)))), none, 0⟩,
    ⟨(some 24), .mv (.t 0), none, 0⟩,
    ⟨(some 25), .ixs (.t 24) (.c (.p (.o (.int .i64 1)))), none, 0⟩,
    ⟨(some 26), .mv (.t 4), none, 0⟩,
    ⟨(some 27), .mv (.t 0), none, 0⟩,
    ⟨(some 28), .sls (.t 27) (some (.c (.p (.o (.int .i64 8))))) none, none, 0⟩,
    ⟨(some 29), .bld [.int .u8 0, .int .u8 0, .int .u32 0, .str ⟨#[]⟩] [(0, 1, (.t 23)), (1, 1, (.t 25)), (2, 1, (.t 26)), (3, 1, (.t 28))], none, 0⟩,
    ⟨none, .st 4 (.t 2) (.t 29), none, 0⟩,
    ⟨(some 3), .mv (.c (.p (.o (.int .i64 0)))), none, 0⟩] 0 (some [(0, 2), (1, 2), (0, 3), (1, 3), (0, 4), (1, 4), (2, 4), (3, 4), (0, 5), (1, 5), (2, 5), (3, 5), (4, 5), (0, 6), (1, 6), (2, 6), (3, 6), (4, 6)])) .ret)))),
  [.cell 2 (some 4), .tmp 3], 30, [0, 2, 3, 4]⟩
theorem ok_icmp_Decode : cFn Try.prog eqsT newsT vf_icmp_Decode.keep Try.f17 = some vf_icmp_Decode := by kernel_rfl
def vf_icmp_Echo : VFn := ⟨(.seq (.reg [
    ⟨(some 1), .box (.t 0), none, 0⟩,
    ⟨(some 2), .new [.int .u8 0, .int .u8 0, .int .u32 0, .str ⟨#[]⟩], none, 1⟩,
    ⟨(some 3), .mv (.c (.p (.o (.bool false)))), none, 2⟩] 2 none) (.seq (.seq (.reg [
    ⟨(some 4), .fad 0 (.t 1), none, 0⟩,
    ⟨(some 5), .ld none (.t 4), none, 0⟩,
    ⟨(some 6), .bin .neq (.t 5) (.c (.p (.o (.int .u8 8)))), none, 0⟩,
    ⟨(some 7), .mv (.t 6), none, 0⟩,
    ⟨(some 8), .fad 1 (.t 1), (some (7, false)), 0⟩,
    ⟨(some 9), .ld none (.t 8), (some (7, false)), 0⟩,
    ⟨(some 10), .bin .neq (.t 9) (.c (.p (.o (.int .u8 0)))), (some (7, false)), 0⟩,
    ⟨(some 11), .pick (.t 7) (.c (.p (.o (.bool true)))) (.t 10), none, 0⟩] 0 none) (.cond (.t 11) (.seq (.reg [
    ⟨(some 12), .bld [.int .u8 0, .int .u8 0, .int .u32 0, .str ⟨#[]⟩] [], none, 0⟩,
    ⟨none, .st 4 (.t 2) (.t 12), none, 0⟩,
    ⟨(some 3), .mv (.c (.p (.o (.bool false)))), none, 0⟩] 0 none) .ret) .skip)) (.seq (.reg [
    ⟨(some 13), .fad 2 (.t 1), none, 0⟩,
    ⟨(some 14), .ld none (.t 13), none, 0⟩,
    ⟨(some 15), .fad 3 (.t 1), none, 0⟩,
    ⟨(some 16), .ld none (.t 15), none, 0⟩,
    ⟨(some 17), .bld [.int .u8 0, .int .u8 0, .int .u32 0, .str ⟨#[]⟩] [(0, 1, (.c (.p (.o (.int .u8 0))))), (2, 1, (.t 14)), (3, 1, (.t 16))], none, 0⟩,
    ⟨none, .st 4 (.t 2) (.t 17), none, 0⟩,
    ⟨(some 3), .mv (.c (.p (.o (.bool true)))), none, 0⟩] 0 none) .ret))),
  [.cell 2 (some 4), .tmp 3], 18, [0, 1, 2, 3]⟩
theorem ok_icmp_Echo : cFn Try.prog eqsT newsT vf_icmp_Echo.keep Try.f19 = some vf_icmp_Echo := by kernel_rfl
def vf_icmp_bad : VFn := ⟨(.seq (.reg [
    ⟨(some 2), .mv (.c (.p (.o (.bool false)))), none, 0⟩] 0 none) (.seq (.reg [
    ⟨(some 4), .bld [.int .u8 0, .int .u8 0, .int .u8 0] [(0, 1, (.c (.p (.o (.int .u8 3))))), (1, 1, (.c (.p (.o (.int .u8 11))))), (2, 1, (.c (.p (.o (.int .u8 12)))))], none, 0⟩,
    ⟨(some 3), .new [.int .u8 0, .int .u8 0, .int .u8 0], none, 0⟩,
    ⟨none, .st 3 (.t 3) (.t 4), none, 1⟩] 1 none) (.seq (.reg [
    ⟨(some 5), .sla 3 1 (.t 3) none none, none, 0⟩,
    ⟨(some 6), .mv (.t 0), none, 0⟩,
    ⟨(some 7), .call 81 [(.t 5), (.t 6)] 0, none, 0⟩,
    ⟨(some 2), .mv (.t 7), none, 0⟩] 0 none) .ret))),
  [.tmp 2], 8, [0, 2, 3]⟩
theorem ok_icmp_bad : cFn Try.prog eqsT newsT vf_icmp_bad.keep Try.f53 = some vf_icmp_bad := by kernel_rfl
def vf_icmp_Error : VFn := ⟨(.seq (.reg [
    ⟨(some 4), .box (.t 0), none, 0⟩,
    ⟨(some 8), .new [.int .u8 0, .int .u8 0, .int .u32 0, .str ⟨#[]⟩], none, 1⟩,
    ⟨(some 9), .mv (.c (.p (.o (.bool false)))), none, 2⟩] 2 none) (.seq (.reg [
    ⟨(some 17), .mv (.t 3), none, 0⟩,
    ⟨(some 18), .call 29 [(.t 17)] 0, none, 0⟩,
    ⟨(some 16), .mv (.t 18), none, 0⟩,
    ⟨(some 19), .ext 0 (.t 16), none, 0⟩,
    ⟨(some 20), .ext 1 (.t 16), none, 0⟩,
    ⟨(some 21), .ext 2 (.t 16), none, 0⟩,
    ⟨(some 10), .new [.int .u8 0, .int .u16 0, .bool false, .bool false, .int .i64 0, .int .u8 0, .int .u8 0, .int .u32 0, .int .u32 0, .str ⟨#[]⟩], none, 0⟩,
    ⟨(some 11), .new [.str ⟨#[]⟩], none, 1⟩,
    ⟨(some 12), .new [.int .i64 0], none, 2⟩,
    ⟨none, .st 10 (.t 10) (.t 19), none, 3⟩,
    ⟨none, .st 1 (.t 11) (.t 20), none, 3⟩,
    ⟨none, .st 1 (.t 12) (.t 21), none, 3⟩] 3 none) (.seq (.seq (.reg [
    ⟨(some 22), .mkf 52 [(.t 4), (.t 12), (.t 10)], none, 0⟩,
    ⟨(some 23), .mkf 54 [(.t 10)], none, 0⟩,
    ⟨(some 24), .mkf 56 [(.t 10)], none, 0⟩,
    ⟨(some 25), .mkf 57 [(.t 10), (.t 11)], none, 0⟩,
    ⟨(some 26), .bsl 4 [.nilfn, .nilfn, .nilfn, .nilfn] [(0, 1, (.t 22)), (1, 1, (.t 23)), (2, 1, (.t 24)), (3, 1, (.t 25))], none, 0⟩,
    ⟨(some 27), .len true (.t 26), none, 1⟩,
    ⟨(some 28), .mv (.c (.p (.o (.int .i64 0)))), none, 1⟩] 1 none) (.block 0 (.loop (.seq (.reg [
    ⟨(some 29), .bin .lss (.t 28) (.t 27), none, 0⟩] 0 none) (.seq (.cond (.t 29) .skip (.exit 0)) (.seq (.block 1 (.seq (.reg [
    ⟨(some 30), .iad 1 (.t 26) (.t 28), none, 0⟩,
    ⟨(some 31), .ld none (.t 30), none, 0⟩,
    ⟨(some 14), .mv (.t 31), none, 0⟩] 0 none) (.seq (.reg [
    ⟨(some 32), .mv (.t 14), none, 0⟩,
    ⟨(some 33), .callv (.t 32) [] 0, none, 0⟩] 0 none) (.cond (.t 33) (.seq (.reg [
    ⟨(some 34), .bld [.int .u8 0, .int .u8 0, .int .u32 0, .str ⟨#[]⟩] [], none, 0⟩,
    ⟨none, .st 4 (.t 8) (.t 34), none, 0⟩,
    ⟨(some 9), .mv (.c (.p (.o (.bool false)))), none, 0⟩] 0 none) .ret) .skip)))) (.reg [
    ⟨(some 35), .bin .add (.t 28) (.c (.p (.o (.int .i64 1)))), none, 0⟩,
    ⟨(some 28), .mv (.t 35), none, 0⟩] 0 none))))))) (.seq (.reg [
    ⟨(some 36), .mv (.t 3), none, 0⟩,
    ⟨(some 37), .fad 9 (.t 10), none, 0⟩,
    ⟨(some 38), .ld none (.t 37), none, 0⟩,
    ⟨(some 39), .len false (.t 38), none, 0⟩,
    ⟨(some 40), .bin .add (.c (.p (.o (.int .i64 20)))) (.t 39), none, 0⟩,
    ⟨(some 41), .sls (.t 36) none (some (.t 40)), none, 0⟩,
    ⟨(some 42), .ld none (.t 11), none, 0⟩,
    ⟨(some 43), .ld none (.t 11), none, 0⟩,
    ⟨(some 44), .len false (.t 43), none, 0⟩,
    ⟨(some 45), .mnx false (.t 44) (.c (.p (.o (.int .i64 8)))), none, 0⟩,
    ⟨(some 46), .sls (.t 42) none (some (.t 45)), none, 0⟩,
    ⟨(some 47), .bin .add (.t 41) (.t 46), none, 0⟩,
    ⟨(some 15), .mv (.t 47), none, 0⟩] 0 (some [(0, 1), (0, 2), (0, 3), (0, 4), (0, 6), (1, 6), (2, 6), (3, 6), (4, 6), (5, 6), (0, 7), (1, 7), (2, 7), (3, 7), (4, 7), (5, 7), (6, 7), (0, 8), (1, 8), (2, 8), (3, 8), (4, 8), (5, 8), (6, 8), (0, 9), (1, 9), (2, 9), (3, 9), (4, 9), (5, 9), (6, 9), (0, 10), (1, 10), (2, 10), (3, 10), (4, 10), (5, 10)])) (.seq (.reg [
    ⟨(some 48), .ld none (.t 4), none, 0⟩,
    ⟨(some 49), .mv (.t 1), none, 0⟩,
    ⟨(some 50), .mv (.t 2), none, 0⟩,
    ⟨(some 51), .mv (.t 15), none, 0⟩,
    ⟨(some 52), .bld [.int .u8 0, .int .u8 0, .int .u32 0, .str ⟨#[]⟩] [(0, 1, (.t 48)), (1, 1, (.t 49)), (2, 1, (.t 50)), (3, 1, (.t 51))], none, 0⟩,
    ⟨none, .st 4 (.t 8) (.t 52), none, 0⟩,
    ⟨(some 9), .mv (.c (.p (.o (.bool true)))), none, 0⟩] 0 none) .ret))))),
  [.cell 8 (some 4), .tmp 9], 53, [0, 1, 2, 3, 4, 8, 9, 10, 11, 12, 14, 15, 26, 27, 28]⟩
theorem ok_icmp_Error : cFn Try.prog eqsT newsT vf_icmp_Error.keep Try.f21 = some vf_icmp_Error := by kernel_rfl
def vf_icmp_Error_1 : VFn := ⟨(.seq (.reg [
    ⟨(some 3), .mv (.c (.p (.o (.bool false)))), none, 0⟩] 0 none) (.seq (.reg [
    ⟨(some 4), .ld none (.t 0), none, 0⟩,
    ⟨(some 5), .call 53 [(.t 4)] 0, none, 0⟩,
    ⟨(some 6), .un .not (.t 5), none, 0⟩,
    ⟨(some 7), .mv (.t 6), none, 0⟩,
    ⟨(some 8), .ld none (.t 1), (some (7, false)), 0⟩,
    ⟨(some 9), .bin .neq (.t 8) (.c (.p (.o (.int .i64 0)))), (some (7, false)), 0⟩,
    ⟨(some 10), .pick (.t 7) (.c (.p (.o (.bool true)))) (.t 9), none, 0⟩,
    ⟨(some 11), .mv (.t 10), none, 0⟩,
    ⟨(some 12), .fad 4 (.t 2), (some (11, false)), 0⟩,
    ⟨(some 13), .ld none (.t 12), (some (11, false)), 0⟩,
    ⟨(some 14), .bin .gtr (.t 13) (.c (.p (.o (.int .i64 0)))), (some (11, false)), 0⟩,
    ⟨(some 15), .pick (.t 11) (.c (.p (.o (.bool true)))) (.t 14), none, 0⟩,
    ⟨(some 3), .mv (.t 15), none, 0⟩] 0 none) .ret)),
  [.tmp 3], 16, [0, 1, 2, 3]⟩
theorem ok_icmp_Error_1 : cFn Try.prog eqsT newsT vf_icmp_Error_1.keep Try.f52 = some vf_icmp_Error_1 := by kernel_rfl
def vf_icmp_Error_2 : VFn := ⟨(.seq (.reg [
    ⟨(some 1), .mv (.c (.p (.o (.bool false)))), none, 0⟩] 0 none) (.seq (.reg [
    ⟨(some 2), .fad 7 (.t 0), none, 0⟩,
    ⟨(some 3), .ld none (.t 2), none, 0⟩,
    ⟨(some 4), .call 55 [(.t 3)] 0, none, 0⟩,
    ⟨(some 5), .bin .neq (.t 4) (.c (.p (.o (.int .u8 0)))), none, 0⟩,
    ⟨(some 1), .mv (.t 5), none, 0⟩] 0 none) .ret)),
  [.tmp 1], 6, [0, 1]⟩
theorem ok_icmp_Error_2 : cFn Try.prog eqsT newsT vf_icmp_Error_2.keep Try.f54 = some vf_icmp_Error_2 := by kernel_rfl
def vf_icmp_Error_3 : VFn := ⟨(.seq (.reg [
    ⟨(some 1), .mv (.c (.p (.o (.bool false)))), none, 0⟩] 0 none) (.seq (.reg [
    ⟨(some 2), .fad 8 (.t 0), none, 0⟩,
    ⟨(some 3), .ld none (.t 2), none, 0⟩,
    ⟨(some 4), .call 55 [(.t 3)] 0, none, 0⟩,
    ⟨(some 5), .bin .eql (.t 4) (.c (.p (.o (.int .u8 3)))), none, 0⟩,
    ⟨(some 6), .mv (.t 5), none, 0⟩,
    ⟨(some 7), .fad 8 (.t 0), (some (6, false)), 0⟩,
    ⟨(some 8), .ld none (.t 7), (some (6, false)), 0⟩,
    ⟨(some 9), .call 55 [(.t 8)] 0, (some (6, false)), 0⟩,
    ⟨(some 10), .bin .eql (.t 9) (.c (.p (.o (.int .u8 5)))), (some (6, false)), 0⟩,
    ⟨(some 11), .pick (.t 6) (.c (.p (.o (.bool true)))) (.t 10), none, 0⟩,
    ⟨(some 1), .mv (.t 11), none, 0⟩] 0 none) .ret)),
  [.tmp 1], 12, [0, 1]⟩
theorem ok_icmp_Error_3 : cFn Try.prog eqsT newsT vf_icmp_Error_3.keep Try.f56 = some vf_icmp_Error_3 := by kernel_rfl
def vf_icmp_Error_4 : VFn := ⟨(.seq (.reg [
    ⟨(some 2), .mv (.c (.p (.o (.bool false)))), none, 0⟩] 0 none) (.seq (.reg [
    ⟨(some 3), .fad 6 (.t 0), none, 0⟩,
    ⟨(some 4), .ld none (.t 3), none, 0⟩,
    ⟨(some 5), .bin .eql (.t 4) (.c (.p (.o (.int .u8 1)))), none, 0⟩,
    ⟨(some 6), .mv (.t 5), none, 0⟩,
    ⟨(some 7), .ld none (.t 1), (some (6, true)), 0⟩,
    ⟨(some 8), .bin .eql (.t 7) (.c (.p (.o (.str ⟨#[]⟩)))), (some (6, true)), 0⟩,
    ⟨(some 9), .mv (.t 8), (some (6, true)), 0⟩,
    ⟨(some 10), .ld none (.t 1), (some (9, false)), 0⟩,
    ⟨(some 11), .ixs (.t 10) (.c (.p (.o (.int .i64 0)))), (some (9, false)), 0⟩,
    ⟨(some 12), .bin .neq (.t 11) (.c (.p (.o (.int .u8 8)))), (some (9, false)), 0⟩,
    ⟨(some 13), .mv (.t 12), (some (9, false)), 0⟩,
    ⟨(some 14), .ld none (.t 1), (some (13, true)), 0⟩,
    ⟨(some 15), .ixs (.t 14) (.c (.p (.o (.int .i64 0)))), (some (13, true)), 0⟩,
    ⟨(some 16), .bin .neq (.t 15) (.c (.p (.o (.int .u8 0)))), (some (13, true)), 0⟩,
    ⟨(some 17), .pick (.t 13) (.t 16) (.c (.p (.o (.bool false)))), (some (9, false)), 0⟩,
    ⟨(some 18), .pick (.t 9) (.c (.p (.o (.bool true)))) (.t 17), (some (6, true)), 0⟩,
    ⟨(some 19), .pick (.t 6) (.t 18) (.c (.p (.o (.bool false)))), none, 0⟩,
    ⟨(some 2), .mv (.t 19), none, 0⟩] 0 none) .ret)),
  [.tmp 2], 20, [0, 1, 2]⟩
theorem ok_icmp_Error_4 : cFn Try.prog eqsT newsT vf_icmp_Error_4.keep Try.f57 = some vf_icmp_Error_4 := by kernel_rfl
def vf_icmp_Quoted : VFn := ⟨(.seq (.reg [
    ⟨(some 1), .box (.t 0), none, 0⟩,
    ⟨(some 2), .new [.int .u8 0, .int .u16 0, .bool false, .bool false, .int .i64 0, .int .u8 0, .int .u8 0, .int .u32 0, .int .u32 0, .str ⟨#[]⟩], none, 1⟩,
    ⟨(some 3), .mv (.c (.p (.o (.str ⟨#[]⟩)))), none, 2⟩,
    ⟨(some 4), .mv (.c (.p (.o (.bool false)))), none, 2⟩] 2 none) (.seq (.reg [
    ⟨(some 9), .fad 3 (.t 1), none, 0⟩,
    ⟨(some 10), .ld none (.t 9), none, 0⟩,
    ⟨(some 5), .mv (.t 10), none, 0⟩] 0 none) (.seq (.seq (.reg [
    ⟨(some 11), .fad 0 (.t 1), none, 0⟩,
    ⟨(some 12), .ld none (.t 11), none, 0⟩,
    ⟨(some 13), .call 53 [(.t 12)] 0, none, 0⟩,
    ⟨(some 14), .un .not (.t 13), none, 0⟩,
    ⟨(some 15), .mv (.t 14), none, 0⟩,
    ⟨(some 16), .mv (.t 5), (some (15, false)), 0⟩,
    ⟨(some 17), .len false (.t 16), (some (15, false)), 0⟩,
    ⟨(some 18), .bin .lss (.t 17) (.c (.p (.o (.int .i64 20)))), (some (15, false)), 0⟩,
    ⟨(some 19), .pick (.t 15) (.c (.p (.o (.bool true)))) (.t 18), none, 0⟩] 0 none) (.cond (.t 19) (.seq (.reg [
    ⟨(some 20), .ld (some 10) (.t 2), none, 0⟩,
    ⟨none, .st 10 (.t 2) (.t 20), none, 0⟩,
    ⟨(some 3), .mv (.c (.p (.o (.str ⟨#[]⟩)))), none, 0⟩,
    ⟨(some 4), .mv (.c (.p (.o (.bool false)))), none, 0⟩] 0 none) .ret) .skip)) (.seq (.reg [
    ⟨(some 21), .mv (.t 5), none, 0⟩,
    ⟨(some 22), .ixs (.t 21) (.c (.p (.o (.int .i64 0)))), none, 0⟩,
    ⟨(some 23), .bin .and (.t 22) (.c (.p (.o (.int .u8 15)))), none, 0⟩,
    ⟨(some 24), .cvi .i64 (.t 23), none, 0⟩,
    ⟨(some 25), .bin .mul (.c (.p (.o (.int .i64 4)))) (.t 24), none, 0⟩,
    ⟨(some 6), .mv (.t 25), none, 0⟩] 0 none) (.seq (.seq (.reg [
    ⟨(some 26), .mv (.t 5), none, 0⟩,
    ⟨(some 27), .ixs (.t 26) (.c (.p (.o (.int .i64 0)))), none, 0⟩,
    ⟨(some 28), .bin .shr (.t 27) (.c (.p (.o (.int .u64 4)))), none, 0⟩,
    ⟨(some 29), .bin .neq (.t 28) (.c (.p (.o (.int .u8 4)))), none, 0⟩,
    ⟨(some 30), .mv (.t 29), none, 0⟩,
    ⟨(some 31), .mv (.t 6), (some (30, false)), 0⟩,
    ⟨(some 32), .bin .lss (.t 31) (.c (.p (.o (.int .i64 20)))), (some (30, false)), 0⟩,
    ⟨(some 33), .pick (.t 30) (.c (.p (.o (.bool true)))) (.t 32), none, 0⟩,
    ⟨(some 34), .mv (.t 33), none, 0⟩,
    ⟨(some 35), .mv (.t 5), (some (34, false)), 0⟩,
    ⟨(some 36), .len false (.t 35), (some (34, false)), 0⟩,
    ⟨(some 37), .mv (.t 6), (some (34, false)), 0⟩,
    ⟨(some 38), .bin .lss (.t 36) (.t 37), (some (34, false)), 0⟩,
    ⟨(some 39), .pick (.t 34) (.c (.p (.o (.bool true)))) (.t 38), none, 0⟩,
    ⟨(some 40), .mv (.t 39), none, 0⟩,
    ⟨(some 41), .mv (.t 5), (some (40, false)), 0⟩,
    ⟨(some 42), .mv (.t 6), (some (40, false)), 0⟩,
    ⟨(some 43), .sls (.t 41) none (some (.t 42)), (some (40, false)), 0⟩,
    ⟨(some 44), .bsl 1 [.str ⟨#[]⟩] [(0, 1, (.t 43))], (some (40, false)), 0⟩,
    ⟨(some 45), .call 48 [(.t 44)] 0, (some (40, false)), 1⟩,
    ⟨(some 46), .un .not (.t 45), (some (40, false)), 1⟩,
    ⟨(some 47), .pick (.t 40) (.c (.p (.o (.bool true)))) (.t 46), none, 1⟩] 1 none) (.cond (.t 47) (.seq (.reg [
    ⟨(some 48), .ld (some 10) (.t 2), none, 0⟩,
    ⟨none, .st 10 (.t 2) (.t 48), none, 0⟩,
    ⟨(some 3), .mv (.c (.p (.o (.str ⟨#[]⟩)))), none, 0⟩,
    ⟨(some 4), .mv (.c (.p (.o (.bool false)))), none, 0⟩] 0 none) .ret) .skip)) (.seq (.reg [
    ⟨(some 50), .mv (.t 5), none, 0⟩,
    ⟨(some 51), .call 60 [(.t 50), (.c (.p (.o (.int .i64 6))))] 0, none, 0⟩,
    ⟨(some 49), .mv (.t 51), none, 0⟩,
    ⟨(some 52), .ext 0 (.t 49), none, 0⟩,
    ⟨(some 53), .ext 1 (.t 49), none, 0⟩,
    ⟨(some 7), .mv (.t 52), none, 0⟩,
    ⟨(some 8), .mv (.t 53), none, 0⟩] 0 none) (.seq (.seq (.reg [
    ⟨(some 54), .mv (.t 7), none, 0⟩,
    ⟨(some 55), .bin .and (.t 54) (.c (.p (.o (.int .u16 8191)))), none, 0⟩,
    ⟨(some 56), .bin .neq (.t 55) (.c (.p (.o (.int .u16 0)))), none, 0⟩] 0 none) (.cond (.t 56) (.seq (.reg [
    ⟨(some 57), .ld (some 10) (.t 2), none, 0⟩,
    ⟨none, .st 10 (.t 2) (.t 57), none, 0⟩,
    ⟨(some 3), .mv (.c (.p (.o (.str ⟨#[]⟩)))), none, 0⟩,
    ⟨(some 4), .mv (.c (.p (.o (.bool false)))), none, 0⟩] 0 none) .ret) .skip)) (.seq (.reg [
    ⟨(some 58), .mv (.t 5), none, 0⟩,
    ⟨(some 59), .ixs (.t 58) (.c (.p (.o (.int .i64 1)))), none, 0⟩,
    ⟨(some 60), .mv (.t 7), none, 0⟩,
    ⟨(some 61), .bin .and (.t 60) (.c (.p (.o (.int .u16 16384)))), none, 0⟩,
    ⟨(some 62), .bin .neq (.t 61) (.c (.p (.o (.int .u16 0)))), none, 0⟩,
    ⟨(some 63), .mv (.t 7), none, 0⟩,
    ⟨(some 64), .bin .and (.t 63) (.c (.p (.o (.int .u16 8192)))), none, 0⟩,
    ⟨(some 65), .bin .neq (.t 64) (.c (.p (.o (.int .u16 0)))), none, 0⟩,
    ⟨(some 66), .mv (.t 5), none, 0⟩,
    ⟨(some 67), .ixs (.t 66) (.c (.p (.o (.int .i64 8)))), none, 0⟩,
    ⟨(some 68), .mv (.t 5), none, 0⟩,
    ⟨(some 69), .ixs (.t 68) (.c (.p (.o (.int .i64 9)))), none, 0⟩,
    ⟨(some 70), .mv (.t 5), none, 0⟩,
    ⟨(some 71), .mv (.t 6), none, 0⟩,
    ⟨(some 72), .sls (.t 70) (some (.c (.p (.o (.int .i64 20))))) (some (.t 71)), none, 0⟩,
    ⟨(some 73), .bld [.int .u8 0, .int .u16 0, .bool false, .bool false, .int .i64 0, .int .u8 0, .int .u8 0, .int .u32 0, .int .u32 0, .str ⟨#[]⟩] [(0, 1, (.t 59)), (2, 1, (.t 62)), (3, 1, (.t 65)), (5, 1, (.t 67)), (6, 1, (.t 69)), (9, 1, (.t 72))], none, 0⟩,
    ⟨none, .st 10 (.t 2) (.t 73), none, 0⟩] 0 (some [(0, 2), (1, 2), (0, 3), (1, 3), (0, 4), (1, 4), (0, 5), (1, 5), (2, 5), (3, 5), (4, 5), (0, 6), (1, 6), (2, 6), (3, 6), (4, 6), (0, 7), (1, 7), (2, 7), (3, 7), (4, 7), (0, 8), (1, 8), (2, 8), (3, 8), (4, 8), (5, 8), (6, 8), (7, 8), (0, 9), (1, 9), (2, 9), (3, 9), (4, 9), (5, 9), (6, 9), (7, 9), (0, 10), (1, 10), (2, 10), (3, 10), (4, 10), (5, 10), (6, 10), (7, 10), (8, 10), (9, 10), (0, 11), (1, 11), (2, 11), (3, 11), (4, 11), (5, 11), (6, 11), (7, 11), (8, 11), (9, 11), (0, 12), (1, 12), (2, 12), (3, 12), (4, 12), (5, 12), (6, 12), (7, 12), (8, 12), (9, 12), (10, 12), (11, 12), (0, 13), (1, 13), (2, 13), (3, 13), (4, 13), (5, 13), (6, 13), (7, 13), (8, 13), (9, 13), (10, 13), (11, 13), (12, 13), (0, 14), (1, 14), (2, 14), (3, 14), (4, 14), (5, 14), (6, 14), (7, 14), (8, 14), (9, 14), (10, 14), (11, 14)])) (.seq (.reg [
    ⟨(some 75), .mv (.t 5), none, 0⟩,
    ⟨(some 76), .call 60 [(.t 75), (.c (.p (.o (.int .i64 4))))] 0, none, 0⟩,
    ⟨(some 74), .mv (.t 76), none, 0⟩,
    ⟨(some 77), .ext 0 (.t 74), none, 0⟩,
    ⟨(some 78), .ext 1 (.t 74), none, 0⟩,
    ⟨(some 79), .fad 1 (.t 2), none, 0⟩,
    ⟨none, .st 1 (.t 79) (.t 77), none, 0⟩] 0 none) (.seq (.reg [
    ⟨(some 81), .mv (.t 5), none, 0⟩,
    ⟨(some 82), .call 49 [(.t 81), (.c (.p (.o (.int .i64 12))))] 0, none, 0⟩,
    ⟨(some 80), .mv (.t 82), none, 0⟩,
    ⟨(some 83), .ext 0 (.t 80), none, 0⟩,
    ⟨(some 84), .ext 1 (.t 80), none, 0⟩,
    ⟨(some 85), .fad 7 (.t 2), none, 0⟩,
    ⟨none, .st 1 (.t 85) (.t 83), none, 0⟩] 0 none) (.seq (.reg [
    ⟨(some 87), .mv (.t 5), none, 0⟩,
    ⟨(some 88), .call 49 [(.t 87), (.c (.p (.o (.int .i64 16))))] 0, none, 0⟩,
    ⟨(some 86), .mv (.t 88), none, 0⟩,
    ⟨(some 89), .ext 0 (.t 86), none, 0⟩,
    ⟨(some 90), .ext 1 (.t 86), none, 0⟩,
    ⟨(some 91), .fad 8 (.t 2), none, 0⟩,
    ⟨none, .st 1 (.t 91) (.t 89), none, 0⟩] 0 none) (.seq (.reg [
    ⟨(some 92), .ld (some 10) (.t 2), none, 0⟩,
    ⟨(some 93), .mv (.t 5), none, 0⟩,
    ⟨(some 94), .mv (.t 6), none, 0⟩,
    ⟨(some 95), .sls (.t 93) (some (.t 94)) none, none, 0⟩,
    ⟨none, .st 10 (.t 2) (.t 92), none, 0⟩,
    ⟨(some 3), .mv (.t 95), none, 0⟩,
    ⟨(some 4), .mv (.c (.p (.o (.bool true)))), none, 0⟩] 0 (some [(0, 1), (0, 2), (1, 2), (0, 3), (1, 4), (2, 4), (3, 4)])) .ret)))))))))))),
  [.cell 2 (some 10), .tmp 3, .tmp 4], 96, [0, 1, 2, 3, 4, 5, 6, 7]⟩
theorem ok_icmp_Quoted : cFn Try.prog eqsT newsT vf_icmp_Quoted.keep Try.f23 = some vf_icmp_Quoted := by kernel_rfl
def vf_ref14_Encode : VFn := ⟨(.seq (.reg [
    ⟨(some 1), .box (.t 0), none, 0⟩,
    ⟨(some 2), .mv (.c (.p (.o (.str ⟨#[]⟩)))), none, 1⟩,
    ⟨(some 3), .mv (.c (.p (.o (.int .i64 0)))), none, 1⟩] 1 none) (.seq (.seq (.reg [
    ⟨(some 6), .fad 3 (.t 1), none, 0⟩,
    ⟨(some 7), .ld none (.t 6), none, 0⟩,
    ⟨(some 8), .len false (.t 7), none, 0⟩,
    ⟨(some 9), .bin .gtr (.t 8) (.c (.p (.o (.int .i64 65507)))), none, 0⟩] 0 none) (.cond (.t 9) (.seq (.reg [
    ⟨(some 2), .mv (.c (.p (.o (.str ⟨#[]⟩)))), none, 0⟩,
    ⟨(some 3), .mv (.c (.p (.o (.int .i64 4)))), none, 0⟩] 0 none) .ret) .skip)) (.seq (.reg [
    ⟨(some 10), .fad 0 (.t 1), none, 0⟩,
    ⟨(some 11), .ld none (.t 10), none, 0⟩,
    ⟨(some 12), .fad 1 (.t 1), none, 0⟩,
    ⟨(some 13), .ld none (.t 12), none, 0⟩,
    ⟨(some 14), .bsl 2 [.int .u8 0, .int .u8 0] [(0, 1, (.t 11)), (1, 1, (.t 13))], none, 0⟩,
    ⟨(some 15), .b2s (.t 14), none, 1⟩,
    ⟨(some 4), .mv (.t 15), none, 1⟩] 1 none) (.seq (.reg [
    ⟨(some 16), .fad 2 (.t 1), none, 0⟩,
    ⟨(some 17), .ld none (.t 16), none, 0⟩,
    ⟨(some 18), .cvi .u64 (.t 17), none, 0⟩,
    ⟨(some 19), .call 46 [(.t 18), (.c (.p (.o (.int .i64 4))))] 0, none, 0⟩,
    ⟨(some 20), .fad 3 (.t 1), none, 0⟩,
    ⟨(some 21), .ld none (.t 20), none, 0⟩,
    ⟨(some 22), .bin .add (.t 19) (.t 21), none, 0⟩,
    ⟨(some 5), .mv (.t 22), none, 0⟩] 0 (some [(0, 4), (1, 4), (2, 4), (3, 4), (0, 5), (1, 5), (2, 5), (3, 5)])) (.seq (.reg [
    ⟨(some 23), .mv (.t 4), none, 0⟩,
    ⟨(some 24), .mv (.t 4), none, 0⟩,
    ⟨(some 25), .bin .add (.t 24) (.c (.p (.o (.str ⟨#[0, 0]⟩)))), none, 0⟩,
    ⟨(some 26), .mv (.t 5), none, 0⟩,
    ⟨(some 27), .bin .add (.t 25) (.t 26), none, 0⟩,
    ⟨(some 28), .call 47 [(.t 27)] 0, none, 0⟩,
    ⟨(some 29), .cvi .u64 (.t 28), none, 0⟩,
    ⟨(some 30), .call 46 [(.t 29), (.c (.p (.o (.int .i64 2))))] 0, none, 0⟩,
    ⟨(some 31), .bin .add (.t 23) (.t 30), none, 0⟩,
    ⟨(some 32), .mv (.t 5), none, 0⟩,
    ⟨(some 33), .bin .add (.t 31) (.t 32), none, 0⟩,
    ⟨(some 2), .mv (.t 33), none, 0⟩,
    ⟨(some 3), .mv (.c (.p (.o (.int .i64 0)))), none, 0⟩] 0 none) .ret))))),
  [.tmp 2, .tmp 3], 34, [0, 1, 2, 3, 4, 5]⟩
theorem ok_ref14_Encode : cFn Try.prog eqsT newsT vf_ref14_Encode.keep Try.f16 = some vf_ref14_Encode := by kernel_rfl
def vf_ref14_Decode : VFn := ⟨(.seq (.reg [
    ⟨(some 2), .new [.int .u8 0, .int .u8 0, .int .u32 0, .str ⟨#[]⟩], none, 0⟩,
    ⟨(some 3), .mv (.c (.p (.o (.int .i64 0)))), none, 1⟩] 1 none) (.seq (.seq (.reg [
    ⟨(some 6), .mv (.t 0), none, 0⟩,
    ⟨(some 7), .len false (.t 6), none, 0⟩,
    ⟨(some 8), .bin .lss (.t 7) (.c (.p (.o (.int .i64 8)))), none, 0⟩] 0 none) (.cond (.t 8) (.seq (.reg [
    ⟨(some 9), .bld [.int .u8 0, .int .u8 0, .int .u32 0, .str ⟨#[]⟩] [], none, 0⟩,
    ⟨none, .st 4 (.t 2) (.t 9), none, 0⟩,
    ⟨(some 3), .mv (.c (.p (.o (.int .i64 10)))), none, 0⟩] 0 none) .ret) .skip)) (.seq (.seq (.reg [
    ⟨(some 10), .mv (.t 0), none, 0⟩,
    ⟨(some 11), .call 50 [(.t 10)] 0, none, 0⟩,
    ⟨(some 12), .un .not (.t 11), none, 0⟩] 0 none) (.cond (.t 12) (.seq (.reg [
    ⟨(some 13), .bld [.int .u8 0, .int .u8 0, .int .u32 0, .str ⟨#[]⟩] [], none, 0⟩,
    ⟨none, .st 4 (.t 2) (.t 13), none, 0⟩,
    ⟨(some 3), .mv (.c (.p (.o (.int .i64 101)))), none, 0⟩] 0 none) .ret) .skip)) (.seq (.reg [
    ⟨(some 15), .mv (.t 0), none, 0⟩,
    ⟨(some 16), .call 51 [(.t 15), (.c (.p (.o (.int .i64 4)))), (.c (.p (.o (.int .i64 4))))] 0, none, 0⟩,
    ⟨(some 14), .mv (.t 16), none, 0⟩,
    ⟨(some 17), .ext 0 (.t 14), none, 0⟩,
    ⟨(some 18), .ext 1 (.t 14), none, 0⟩,
    ⟨(some 4), .mv (.t 17), none, 0⟩,
    ⟨(some 5), .mv (.t 18), none, 0⟩] 0 none) (.seq (.reg [
    ⟨(some 19), .mv (.t 0), none, 0⟩,
    ⟨(some 20), .ixs (.t 19) (.c (.p (.o (.int .i64 0)))), none, 0⟩,
    ⟨(some 21), .mv (.t 0), none, 0⟩,
    ⟨(some 22), .ixs (.t 21) (.c (.p (.o (.int .i64 1)))), none, 0⟩,
    ⟨(some 23), .mv (.t 4), none, 0⟩,
    ⟨(some 24), .cvi .u32 (.t 23), none, 0⟩,
    ⟨(some 25), .mv (.t 0), none, 0⟩,
    ⟨(some 26), .sls (.t 25) (some (.c (.p (.o (.int .i64 8))))) none, none, 0⟩,
    ⟨(some 27), .bld [.int .u8 0, .int .u8 0, .int .u32 0, .str ⟨#[]⟩] [(0, 1, (.t 20)), (1, 1, (.t 22)), (2, 1, (.t 24)), (3, 1, (.t 26))], none, 0⟩,
    ⟨none, .st 4 (.t 2) (.t 27), none, 0⟩,
    ⟨(some 3), .mv (.c (.p (.o (.int .i64 0)))), none, 0⟩] 0 (some [(0, 2), (1, 2), (0, 3), (1, 3), (0, 4), (1, 4), (2, 4), (3, 4), (0, 5), (1, 5), (2, 5), (3, 5), (0, 6), (1, 6), (2, 6), (3, 6), (4, 6), (5, 6), (0, 7), (1, 7), (2, 7), (3, 7), (4, 7), (5, 7)])) .ret))))),
  [.cell 2 (some 4), .tmp 3], 28, [0, 2, 3, 4]⟩
theorem ok_ref14_Decode : cFn Try.prog eqsT newsT vf_ref14_Decode.keep Try.f18 = some vf_ref14_Decode := by kernel_rfl
def vf_ref14_Echo : VFn := ⟨(.seq (.reg [
    ⟨(some 1), .box (.t 0), none, 0⟩,
    ⟨(some 2), .new [.int .u8 0, .int .u8 0, .int .u32 0, .str ⟨#[]⟩], none, 1⟩,
    ⟨(some 3), .mv (.c (.p (.o (.bool false)))), none, 2⟩] 2 none) (.seq (.seq (.reg [
    ⟨(some 4), .fad 0 (.t 1), none, 0⟩,
    ⟨(some 5), .ld none (.t 4), none, 0⟩,
    ⟨(some 6), .bin .neq (.t 5) (.c (.p (.o (.int .u8 8)))), none, 0⟩,
    ⟨(some 7), .mv (.t 6), none, 0⟩,
    ⟨(some 8), .fad 1 (.t 1), (some (7, false)), 0⟩,
    ⟨(some 9), .ld none (.t 8), (some (7, false)), 0⟩,
    ⟨(some 10), .bin .neq (.t 9) (.c (.p (.o (.int .u8 0)))), (some (7, false)), 0⟩,
    ⟨(some 11), .pick (.t 7) (.c (.p (.o (.bool true)))) (.t 10), none, 0⟩] 0 none) (.cond (.t 11) (.seq (.reg [
    ⟨(some 12), .bld [.int .u8 0, .int .u8 0, .int .u32 0, .str ⟨#[]⟩] [], none, 0⟩,
    ⟨none, .st 4 (.t 2) (.t 12), none, 0⟩,
    ⟨(some 3), .mv (.c (.p (.o (.bool false)))), none, 0⟩] 0 none) .ret) .skip)) (.seq (.reg [
    ⟨(some 13), .fad 2 (.t 1), none, 0⟩,
    ⟨(some 14), .ld none (.t 13), none, 0⟩,
    ⟨(some 15), .fad 3 (.t 1), none, 0⟩,
    ⟨(some 16), .ld none (.t 15), none, 0⟩,
    ⟨(some 17), .bld [.int .u8 0, .int .u8 0, .int .u32 0, .str ⟨#[]⟩] [(0, 1, (.c (.p (.o (.int .u8 0))))), (2, 1, (.t 14)), (3, 1, (.t 16))], none, 0⟩,
    ⟨none, .st 4 (.t 2) (.t 17), none, 0⟩,
    ⟨(some 3), .mv (.c (.p (.o (.bool true)))), none, 0⟩] 0 none) .ret))),
  [.cell 2 (some 4), .tmp 3], 18, [0, 1, 2, 3]⟩
theorem ok_ref14_Echo : cFn Try.prog eqsT newsT vf_ref14_Echo.keep Try.f20 = some vf_ref14_Echo := by kernel_rfl
def vf_ref14_Bad : VFn := ⟨(.seq (.reg [
    ⟨(some 2), .mv (.c (.p (.o (.bool false)))), none, 0⟩] 0 none) (.seq (.reg [
    ⟨(some 3), .mv (.t 0), none, 0⟩,
    ⟨(some 4), .bin .eql (.t 3) (.c (.p (.o (.int .u8 3)))), none, 0⟩,
    ⟨(some 5), .mv (.t 4), none, 0⟩,
    ⟨(some 6), .mv (.t 0), (some (5, false)), 0⟩,
    ⟨(some 7), .bin .eql (.t 6) (.c (.p (.o (.int .u8 11)))), (some (5, false)), 0⟩,
    ⟨(some 8), .pick (.t 5) (.c (.p (.o (.bool true)))) (.t 7), none, 0⟩,
    ⟨(some 9), .mv (.t 8), none, 0⟩,
    ⟨(some 10), .mv (.t 0), (some (9, false)), 0⟩,
    ⟨(some 11), .bin .eql (.t 10) (.c (.p (.o (.int .u8 12)))), (some (9, false)), 0⟩,
    ⟨(some 12), .pick (.t 9) (.c (.p (.o (.bool true)))) (.t 11), none, 0⟩,
    ⟨(some 2), .mv (.t 12), none, 0⟩] 0 none) .ret)),
  [.tmp 2], 13, [0, 2]⟩
theorem ok_ref14_Bad : cFn Try.prog eqsT newsT vf_ref14_Bad.keep Try.f59 = some vf_ref14_Bad := by kernel_rfl
def vf_ref14_Error : VFn := ⟨(.seq (.reg [
    ⟨(some 8), .new [.int .u8 0, .int .u8 0, .int .u32 0, .str ⟨#[]⟩], none, 0⟩,
    ⟨(some 9), .mv (.c (.p (.o (.bool false)))), none, 1⟩] 1 none) (.seq (.reg [
    ⟨(some 16), .mv (.t 3), none, 0⟩,
    ⟨(some 17), .call 30 [(.t 16)] 0, none, 0⟩,
    ⟨(some 15), .mv (.t 17), none, 0⟩,
    ⟨(some 18), .ext 0 (.t 15), none, 0⟩,
    ⟨(some 19), .ext 1 (.t 15), none, 0⟩,
    ⟨(some 20), .ext 2 (.t 15), none, 0⟩,
    ⟨(some 10), .new [.int .u8 0, .int .u16 0, .bool false, .bool false, .int .i64 0, .int .u8 0, .int .u8 0, .int .u32 0, .int .u32 0, .str ⟨#[]⟩], none, 0⟩,
    ⟨none, .st 10 (.t 10) (.t 18), none, 1⟩,
    ⟨(some 11), .mv (.t 19), none, 1⟩,
    ⟨(some 12), .mv (.t 20), none, 1⟩] 1 none) (.seq (.reg [
    ⟨(some 21), .fad 8 (.t 10), none, 0⟩,
    ⟨(some 22), .ld none (.t 21), none, 0⟩,
    ⟨(some 23), .call 58 [(.t 22)] 0, none, 0⟩,
    ⟨(some 13), .mv (.t 23), none, 0⟩] 0 none) (.seq (.seq (.reg [
    ⟨(some 24), .mv (.t 0), none, 0⟩,
    ⟨(some 25), .call 59 [(.t 24)] 0, none, 0⟩,
    ⟨(some 26), .un .not (.t 25), none, 0⟩,
    ⟨(some 27), .mv (.t 26), none, 0⟩,
    ⟨(some 28), .mv (.t 12), (some (27, false)), 0⟩,
    ⟨(some 29), .bin .neq (.t 28) (.c (.p (.o (.int .i64 0)))), (some (27, false)), 0⟩,
    ⟨(some 30), .pick (.t 27) (.c (.p (.o (.bool true)))) (.t 29), none, 0⟩,
    ⟨(some 31), .mv (.t 30), none, 0⟩,
    ⟨(some 32), .fad 4 (.t 10), (some (31, false)), 0⟩,
    ⟨(some 33), .ld none (.t 32), (some (31, false)), 0⟩,
    ⟨(some 34), .bin .gtr (.t 33) (.c (.p (.o (.int .i64 0)))), (some (31, false)), 0⟩,
    ⟨(some 35), .pick (.t 31) (.c (.p (.o (.bool true)))) (.t 34), none, 0⟩,
    ⟨(some 36), .mv (.t 35), none, 0⟩,
    ⟨(some 37), .fad 7 (.t 10), (some (36, false)), 0⟩,
    ⟨(some 38), .ld none (.t 37), (some (36, false)), 0⟩,
    ⟨(some 39), .call 58 [(.t 38)] 0, (some (36, false)), 0⟩,
    ⟨(some 40), .bin .neq (.t 39) (.c (.p (.o (.int .u8 0)))), (some (36, false)), 0⟩,
    ⟨(some 41), .pick (.t 36) (.c (.p (.o (.bool true)))) (.t 40), none, 0⟩,
    ⟨(some 42), .mv (.t 41), none, 0⟩,
    ⟨(some 43), .mv (.t 13), (some (42, false)), 0⟩,
    ⟨(some 44), .bin .eql (.t 43) (.c (.p (.o (.int .u8 3)))), (some (42, false)), 0⟩,
    ⟨(some 45), .pick (.t 42) (.c (.p (.o (.bool true)))) (.t 44), none, 0⟩,
    ⟨(some 46), .mv (.t 45), none, 0⟩,
    ⟨(some 47), .mv (.t 13), (some (46, false)), 0⟩,
    ⟨(some 48), .bin .eql (.t 47) (.c (.p (.o (.int .u8 5)))), (some (46, false)), 0⟩,
    ⟨(some 49), .pick (.t 46) (.c (.p (.o (.bool true)))) (.t 48), none, 0⟩] 0 none) (.cond (.t 49) (.seq (.reg [
    ⟨(some 50), .bld [.int .u8 0, .int .u8 0, .int .u32 0, .str ⟨#[]⟩] [], none, 0⟩,
    ⟨none, .st 4 (.t 8) (.t 50), none, 0⟩,
    ⟨(some 9), .mv (.c (.p (.o (.bool false)))), none, 0⟩] 0 none) .ret) .skip)) (.seq (.seq (.reg [
    ⟨(some 51), .fad 6 (.t 10), none, 0⟩,
    ⟨(some 52), .ld none (.t 51), none, 0⟩,
    ⟨(some 53), .bin .eql (.t 52) (.c (.p (.o (.int .u8 1)))), none, 0⟩,
    ⟨(some 54), .mv (.t 53), none, 0⟩,
    ⟨(some 55), .mv (.t 11), (some (54, true)), 0⟩,
    ⟨(some 56), .bin .eql (.t 55) (.c (.p (.o (.str ⟨#[]⟩)))), (some (54, true)), 0⟩,
    ⟨(some 57), .mv (.t 56), (some (54, true)), 0⟩,
    ⟨(some 58), .mv (.t 11), (some (57, false)), 0⟩,
    ⟨(some 59), .ixs (.t 58) (.c (.p (.o (.int .i64 0)))), (some (57, false)), 0⟩,
    ⟨(some 60), .bin .neq (.t 59) (.c (.p (.o (.int .u8 8)))), (some (57, false)), 0⟩,
    ⟨(some 61), .mv (.t 60), (some (57, false)), 0⟩,
    ⟨(some 62), .mv (.t 11), (some (61, true)), 0⟩,
    ⟨(some 63), .ixs (.t 62) (.c (.p (.o (.int .i64 0)))), (some (61, true)), 0⟩,
    ⟨(some 64), .bin .neq (.t 63) (.c (.p (.o (.int .u8 0)))), (some (61, true)), 0⟩,
    ⟨(some 65), .pick (.t 61) (.t 64) (.c (.p (.o (.bool false)))), (some (57, false)), 0⟩,
    ⟨(some 66), .pick (.t 57) (.c (.p (.o (.bool true)))) (.t 65), (some (54, true)), 0⟩,
    ⟨(some 67), .pick (.t 54) (.t 66) (.c (.p (.o (.bool false)))), none, 0⟩] 0 none) (.cond (.t 67) (.seq (.reg [
    ⟨(some 68), .bld [.int .u8 0, .int .u8 0, .int .u32 0, .str ⟨#[]⟩] [], none, 0⟩,
    ⟨none, .st 4 (.t 8) (.t 68), none, 0⟩,
    ⟨(some 9), .mv (.c (.p (.o (.bool false)))), none, 0⟩] 0 none) .ret) .skip)) (.seq (.reg [
    ⟨(some 69), .fad 9 (.t 10), none, 0⟩,
    ⟨(some 70), .ld none (.t 69), none, 0⟩,
    ⟨(some 71), .len false (.t 70), none, 0⟩,
    ⟨(some 72), .bin .add (.c (.p (.o (.int .i64 20)))) (.t 71), none, 0⟩,
    ⟨(some 14), .mv (.t 72), none, 0⟩] 0 none) (.seq (.reg [
    ⟨(some 73), .mv (.t 0), none, 0⟩,
    ⟨(some 74), .mv (.t 1), none, 0⟩,
    ⟨(some 75), .mv (.t 2), none, 0⟩,
    ⟨(some 76), .mv (.t 3), none, 0⟩,
    ⟨(some 77), .mv (.t 14), none, 0⟩,
    ⟨(some 78), .sls (.t 76) none (some (.t 77)), none, 0⟩,
    ⟨(some 79), .mv (.t 11), none, 0⟩,
    ⟨(some 80), .mv (.t 11), none, 0⟩,
    ⟨(some 81), .len false (.t 80), none, 0⟩,
    ⟨(some 82), .mnx false (.t 81) (.c (.p (.o (.int .i64 8)))), none, 0⟩,
    ⟨(some 83), .sls (.t 79) none (some (.t 82)), none, 0⟩,
    ⟨(some 84), .bin .add (.t 78) (.t 83), none, 0⟩,
    ⟨(some 85), .bld [.int .u8 0, .int .u8 0, .int .u32 0, .str ⟨#[]⟩] [(0, 1, (.t 73)), (1, 1, (.t 74)), (2, 1, (.t 75)), (3, 1, (.t 84))], none, 0⟩,
    ⟨none, .st 4 (.t 8) (.t 85), none, 0⟩,
    ⟨(some 9), .mv (.c (.p (.o (.bool true)))), none, 0⟩] 0 (some [(0, 1), (0, 2), (1, 2), (0, 3), (1, 3), (2, 3), (0, 4), (1, 4), (2, 4), (3, 4), (0, 5), (1, 5), (2, 5), (0, 6), (1, 6), (2, 6), (3, 6), (4, 6), (5, 6), (0, 7), (1, 7), (2, 7), (3, 7), (4, 7), (5, 7), (6, 7), (0, 8), (1, 8), (2, 8), (3, 8), (4, 8), (5, 8), (6, 8), (0, 9), (1, 9), (2, 9), (3, 9), (4, 9), (5, 9), (6, 9), (0, 10), (1, 10), (2, 10), (3, 10), (4, 10), (5, 10), (0, 11), (1, 11), (2, 11)])) .ret))))))),
  [.cell 8 (some 4), .tmp 9], 86, [0, 1, 2, 3, 8, 9, 10, 11, 12, 13, 14]⟩
theorem ok_ref14_Error : cFn Try.prog eqsT newsT vf_ref14_Error.keep Try.f22 = some vf_ref14_Error := by kernel_rfl
def vf_ref14_Quoted : VFn := ⟨(.seq (.reg [
    ⟨(some 1), .box (.t 0), none, 0⟩,
    ⟨(some 2), .new [.int .u8 0, .int .u16 0, .bool false, .bool false, .int .i64 0, .int .u8 0, .int .u8 0, .int .u32 0, .int .u32 0, .str ⟨#[]⟩], none, 1⟩,
    ⟨(some 3), .mv (.c (.p (.o (.str ⟨#[]⟩)))), none, 2⟩,
    ⟨(some 4), .mv (.c (.p (.o (.bool false)))), none, 2⟩] 2 none) (.seq (.reg [
    ⟨(some 15), .fad 3 (.t 1), none, 0⟩,
    ⟨(some 16), .ld none (.t 15), none, 0⟩,
    ⟨(some 5), .mv (.t 16), none, 0⟩] 0 none) (.seq (.seq (.reg [
    ⟨(some 17), .fad 0 (.t 1), none, 0⟩,
    ⟨(some 18), .ld none (.t 17), none, 0⟩,
    ⟨(some 19), .call 59 [(.t 18)] 0, none, 0⟩,
    ⟨(some 20), .un .not (.t 19), none, 0⟩,
    ⟨(some 21), .mv (.t 20), none, 0⟩,
    ⟨(some 22), .mv (.t 5), (some (21, false)), 0⟩,
    ⟨(some 23), .len false (.t 22), (some (21, false)), 0⟩,
    ⟨(some 24), .bin .lss (.t 23) (.c (.p (.o (.int .i64 20)))), (some (21, false)), 0⟩,
    ⟨(some 25), .pick (.t 21) (.c (.p (.o (.bool true)))) (.t 24), none, 0⟩,
    ⟨(some 26), .mv (.t 25), none, 0⟩,
    ⟨(some 27), .mv (.t 5), (some (26, false)), 0⟩,
    ⟨(some 28), .ixs (.t 27) (.c (.p (.o (.int .i64 0)))), (some (26, false)), 0⟩,
    ⟨(some 29), .bin .shr (.t 28) (.c (.p (.o (.int .u64 4)))), (some (26, false)), 0⟩,
    ⟨(some 30), .bin .neq (.t 29) (.c (.p (.o (.int .u8 4)))), (some (26, false)), 0⟩,
    ⟨(some 31), .pick (.t 26) (.c (.p (.o (.bool true)))) (.t 30), none, 0⟩] 0 none) (.cond (.t 31) (.seq (.reg [
    ⟨(some 32), .bld [.int .u8 0, .int .u16 0, .bool false, .bool false, .int .i64 0, .int .u8 0, .int .u8 0, .int .u32 0, .int .u32 0, .str ⟨#[]⟩] [], none, 0⟩,
    ⟨none, .st 10 (.t 2) (.t 32), none, 0⟩,
    ⟨(some 3), .mv (.c (.p (.o (.str ⟨#[]⟩)))), none, 0⟩,
    ⟨(some 4), .mv (.c (.p (.o (.bool false)))), none, 0⟩] 0 none) .ret) .skip)) (.seq (.reg [
    ⟨(some 33), .mv (.t 5), none, 0⟩,
    ⟨(some 34), .ixs (.t 33) (.c (.p (.o (.int .i64 0)))), none, 0⟩,
    ⟨(some 35), .bin .and (.t 34) (.c (.p (.o (.int .u8 15)))), none, 0⟩,
    ⟨(some 36), .cvi .i64 (.t 35), none, 0⟩,
    ⟨(some 37), .bin .mul (.c (.p (.o (.int .i64 4)))) (.t 36), none, 0⟩,
    ⟨(some 6), .mv (.t 37), none, 0⟩] 0 none) (.seq (.seq (.reg [
    ⟨(some 38), .mv (.t 6), none, 0⟩,
    ⟨(some 39), .bin .lss (.t 38) (.c (.p (.o (.int .i64 20)))), none, 0⟩,
    ⟨(some 40), .mv (.t 39), none, 0⟩,
    ⟨(some 41), .mv (.t 5), (some (40, false)), 0⟩,
    ⟨(some 42), .len false (.t 41), (some (40, false)), 0⟩,
    ⟨(some 43), .mv (.t 6), (some (40, false)), 0⟩,
    ⟨(some 44), .bin .lss (.t 42) (.t 43), (some (40, false)), 0⟩,
    ⟨(some 45), .pick (.t 40) (.c (.p (.o (.bool true)))) (.t 44), none, 0⟩,
    ⟨(some 46), .mv (.t 45), none, 0⟩,
    ⟨(some 47), .mv (.t 5), (some (46, false)), 0⟩,
    ⟨(some 48), .mv (.t 6), (some (46, false)), 0⟩,
    ⟨(some 49), .sls (.t 47) none (some (.t 48)), (some (46, false)), 0⟩,
    ⟨(some 50), .call 50 [(.t 49)] 0, (some (46, false)), 0⟩,
    ⟨(some 51), .un .not (.t 50), (some (46, false)), 0⟩,
    ⟨(some 52), .pick (.t 46) (.c (.p (.o (.bool true)))) (.t 51), none, 0⟩] 0 none) (.cond (.t 52) (.seq (.reg [
    ⟨(some 53), .bld [.int .u8 0, .int .u16 0, .bool false, .bool false, .int .i64 0, .int .u8 0, .int .u8 0, .int .u32 0, .int .u32 0, .str ⟨#[]⟩] [], none, 0⟩,
    ⟨none, .st 10 (.t 2) (.t 53), none, 0⟩,
    ⟨(some 3), .mv (.c (.p (.o (.str ⟨#[]⟩)))), none, 0⟩,
    ⟨(some 4), .mv (.c (.p (.o (.bool false)))), none, 0⟩] 0 none) .ret) .skip)) (.seq (.reg [
    ⟨(some 55), .mv (.t 5), none, 0⟩,
    ⟨(some 56), .call 51 [(.t 55), (.c (.p (.o (.int .i64 4)))), (.c (.p (.o (.int .i64 2))))] 0, none, 0⟩,
    ⟨(some 54), .mv (.t 56), none, 0⟩,
    ⟨(some 57), .ext 0 (.t 54), none, 0⟩,
    ⟨(some 58), .ext 1 (.t 54), none, 0⟩,
    ⟨(some 7), .mv (.t 57), none, 0⟩,
    ⟨(some 8), .mv (.t 58), none, 0⟩] 0 none) (.seq (.reg [
    ⟨(some 60), .mv (.t 5), none, 0⟩,
    ⟨(some 61), .call 51 [(.t 60), (.c (.p (.o (.int .i64 6)))), (.c (.p (.o (.int .i64 2))))] 0, none, 0⟩,
    ⟨(some 59), .mv (.t 61), none, 0⟩,
    ⟨(some 62), .ext 0 (.t 59), none, 0⟩,
    ⟨(some 63), .ext 1 (.t 59), none, 0⟩,
    ⟨(some 9), .mv (.t 62), none, 0⟩,
    ⟨(some 10), .mv (.t 63), none, 0⟩] 0 none) (.seq (.reg [
    ⟨(some 65), .mv (.t 5), none, 0⟩,
    ⟨(some 66), .call 51 [(.t 65), (.c (.p (.o (.int .i64 12)))), (.c (.p (.o (.int .i64 4))))] 0, none, 0⟩,
    ⟨(some 64), .mv (.t 66), none, 0⟩,
    ⟨(some 67), .ext 0 (.t 64), none, 0⟩,
    ⟨(some 68), .ext 1 (.t 64), none, 0⟩,
    ⟨(some 11), .mv (.t 67), none, 0⟩,
    ⟨(some 12), .mv (.t 68), none, 0⟩] 0 none) (.seq (.reg [
    ⟨(some 70), .mv (.t 5), none, 0⟩,
    ⟨(some 71), .call 51 [(.t 70), (.c (.p (.o (.int .i64 16)))), (.c (.p (.o (.int .i64 4))))] 0, none, 0⟩,
    ⟨(some 69), .mv (.t 71), none, 0⟩,
    ⟨(some 72), .ext 0 (.t 69), none, 0⟩,
    ⟨(some 73), .ext 1 (.t 69), none, 0⟩,
    ⟨(some 13), .mv (.t 72), none, 0⟩,
    ⟨(some 14), .mv (.t 73), none, 0⟩] 0 none) (.seq (.seq (.reg [
    ⟨(some 74), .mv (.t 9), none, 0⟩,
    ⟨(some 75), .bin .and (.t 74) (.c (.p (.o (.int .u64 8191)))), none, 0⟩,
    ⟨(some 76), .bin .neq (.t 75) (.c (.p (.o (.int .u64 0)))), none, 0⟩] 0 none) (.cond (.t 76) (.seq (.reg [
    ⟨(some 77), .bld [.int .u8 0, .int .u16 0, .bool false, .bool false, .int .i64 0, .int .u8 0, .int .u8 0, .int .u32 0, .int .u32 0, .str ⟨#[]⟩] [], none, 0⟩,
    ⟨none, .st 10 (.t 2) (.t 77), none, 0⟩,
    ⟨(some 3), .mv (.c (.p (.o (.str ⟨#[]⟩)))), none, 0⟩,
    ⟨(some 4), .mv (.c (.p (.o (.bool false)))), none, 0⟩] 0 none) .ret) .skip)) (.seq (.reg [
    ⟨(some 78), .mv (.t 5), none, 0⟩,
    ⟨(some 79), .ixs (.t 78) (.c (.p (.o (.int .i64 1)))), none, 0⟩,
    ⟨(some 80), .mv (.t 7), none, 0⟩,
    ⟨(some 81), .cvi .u16 (.t 80), none, 0⟩,
    ⟨(some 82), .mv (.t 9), none, 0⟩,
    ⟨(some 83), .bin .and (.t 82) (.c (.p (.o (.int .u64 16384)))), none, 0⟩,
    ⟨(some 84), .bin .neq (.t 83) (.c (.p (.o (.int .u64 0)))), none, 0⟩,
    ⟨(some 85), .mv (.t 9), none, 0⟩,
    ⟨(some 86), .bin .and (.t 85) (.c (.p (.o (.int .u64 8192)))), none, 0⟩,
    ⟨(some 87), .bin .neq (.t 86) (.c (.p (.o (.int .u64 0)))), none, 0⟩,
    ⟨(some 88), .mv (.t 5), none, 0⟩,
    ⟨(some 89), .ixs (.t 88) (.c (.p (.o (.int .i64 8)))), none, 0⟩,
    ⟨(some 90), .mv (.t 5), none, 0⟩,
    ⟨(some 91), .ixs (.t 90) (.c (.p (.o (.int .i64 9)))), none, 0⟩,
    ⟨(some 92), .mv (.t 11), none, 0⟩,
    ⟨(some 93), .cvi .u32 (.t 92), none, 0⟩,
    ⟨(some 94), .mv (.t 13), none, 0⟩,
    ⟨(some 95), .cvi .u32 (.t 94), none, 0⟩,
    ⟨(some 96), .mv (.t 5), none, 0⟩,
    ⟨(some 97), .mv (.t 6), none, 0⟩,
    ⟨(some 98), .sls (.t 96) (some (.c (.p (.o (.int .i64 20))))) (some (.t 97)), none, 0⟩,
    ⟨(some 99), .bld [.int .u8 0, .int .u16 0, .bool false, .bool false, .int .i64 0, .int .u8 0, .int .u8 0, .int .u32 0, .int .u32 0, .str ⟨#[]⟩] [(0, 1, (.t 79)), (1, 1, (.t 81)), (2, 1, (.t 84)), (3, 1, (.t 87)), (5, 1, (.t 89)), (6, 1, (.t 91)), (7, 1, (.t 93)), (8, 1, (.t 95)), (9, 1, (.t 98))], none, 0⟩,
    ⟨(some 100), .mv (.t 5), none, 0⟩,
    ⟨(some 101), .mv (.t 6), none, 0⟩,
    ⟨(some 102), .sls (.t 100) (some (.t 101)) none, none, 0⟩,
    ⟨none, .st 10 (.t 2) (.t 99), none, 0⟩,
    ⟨(some 3), .mv (.t 102), none, 0⟩,
    ⟨(some 4), .mv (.c (.p (.o (.bool true)))), none, 0⟩] 0 (some [(0, 2), (1, 2), (0, 3), (1, 3), (0, 4), (1, 4), (2, 4), (3, 4), (0, 5), (1, 5), (2, 5), (3, 5), (0, 6), (1, 6), (2, 6), (3, 6), (0, 7), (1, 7), (2, 7), (3, 7), (4, 7), (5, 7), (6, 7), (0, 8), (1, 8), (2, 8), (3, 8), (4, 8), (5, 8), (6, 8), (0, 9), (1, 9), (2, 9), (3, 9), (4, 9), (5, 9), (6, 9), (0, 10), (1, 10), (2, 10), (3, 10), (4, 10), (5, 10), (6, 10), (7, 10), (8, 10), (9, 10), (0, 11), (1, 11), (2, 11), (3, 11), (4, 11), (5, 11), (6, 11), (7, 11), (8, 11), (9, 11), (0, 12), (1, 12), (2, 12), (3, 12), (4, 12), (5, 12), (6, 12), (7, 12), (8, 12), (9, 12), (10, 12), (11, 12), (0, 13), (1, 13), (2, 13), (3, 13), (4, 13), (5, 13), (6, 13), (7, 13), (8, 13), (9, 13), (10, 13), (11, 13), (0, 14), (1, 14), (2, 14), (3, 14), (4, 14), (5, 14), (6, 14), (7, 14), (8, 14), (9, 14), (10, 14), (11, 14), (12, 14), (13, 14), (0, 15), (1, 15), (2, 15), (3, 15), (4, 15), (5, 15), (6, 15), (7, 15), (8, 15), (9, 15), (10, 15), (11, 15), (12, 15), (13, 15), (0, 16), (1, 16), (2, 16), (3, 16), (4, 16), (5, 16), (6, 16), (7, 16), (8, 16), (9, 16), (10, 16), (11, 16), (12, 16), (13, 16), (14, 16), (15, 16), (0, 17), (1, 17), (2, 17), (3, 17), (4, 17), (5, 17), (6, 17), (7, 17), (8, 17), (9, 17), (10, 17), (11, 17), (12, 17), (13, 17), (14, 17), (15, 17), (0, 18), (1, 18), (2, 18), (3, 18), (4, 18), (5, 18), (6, 18), (7, 18), (8, 18), (9, 18), (10, 18), (11, 18), (12, 18), (13, 18), (14, 18), (15, 18), (16, 18), (17, 18), (0, 19), (1, 19), (2, 19), (3, 19), (4, 19), (5, 19), (6, 19), (7, 19), (8, 19), (9, 19), (10, 19), (11, 19), (12, 19), (13, 19), (14, 19), (15, 19), (16, 19), (17, 19), (18, 19), (0, 20), (1, 20), (2, 20), (3, 20), (4, 20), (5, 20), (6, 20), (7, 20), (8, 20), (9, 20), (10, 20), (11, 20), (12, 20), (13, 20), (14, 20), (15, 20), (16, 20), (17, 20), (0, 22), (1, 22), (2, 22), (3, 22), (4, 22), (5, 22), (6, 22), (7, 22), (8, 22), (9, 22), (10, 22), (11, 22), (12, 22), (13, 22), (14, 22), (15, 22), (16, 22), (17, 22), (18, 22), (19, 22), (20, 22), (21, 22), (0, 23), (1, 23), (2, 23), (3, 23), (4, 23), (5, 23), (6, 23), (7, 23), (8, 23), (9, 23), (10, 23), (11, 23), (12, 23), (13, 23), (14, 23), (15, 23), (16, 23), (17, 23), (18, 23), (19, 23), (20, 23), (21, 23), (22, 23), (0, 24), (1, 24), (2, 24), (3, 24), (4, 24), (5, 24), (6, 24), (7, 24), (8, 24), (9, 24), (10, 24), (11, 24), (12, 24), (13, 24), (14, 24), (15, 24), (16, 24), (17, 24), (18, 24), (19, 24), (20, 24), (21, 24), (22, 25), (23, 25), (24, 25)])) .ret))))))))))),
  [.cell 2 (some 10), .tmp 3, .tmp 4], 103, [0, 1, 2, 3, 4, 5, 6, 7, 9, 11, 13]⟩
theorem ok_ref14_Quoted : cFn Try.prog eqsT newsT vf_ref14_Quoted.keep Try.f24 = some vf_ref14_Quoted := by kernel_rfl
def vf_addr_Kind : VFn := ⟨(.seq (.reg [
    ⟨(some 1), .box (.t 0), none, 0⟩,
    ⟨(some 2), .mv (.c (.p (.o (.int .u8 0)))), none, 1⟩] 1 none) (.seq (.reg [
    ⟨(some 6), .ld none (.t 1), none, 0⟩,
    ⟨(some 7), .call 82 [(.t 6)] 0, none, 0⟩,
    ⟨(some 8), .ixa 4 1 none (.t 7) (.c (.p (.o (.int .i64 0)))), none, 0⟩,
    ⟨(some 3), .new [.int .u8 0], none, 0⟩,
    ⟨none, .st 1 (.t 3) (.t 8), none, 1⟩] 1 none) (.seq (.seq (.reg [
    ⟨(some 9), .mkf 83 [(.t 1)], none, 0⟩,
    ⟨(some 10), .bld [.nilfn, .int .u8 0] [(0, 1, (.t 9)), (1, 1, (.c (.p (.o (.int .u8 1)))))], none, 0⟩,
    ⟨(some 11), .mkf 84 [(.t 1)], none, 0⟩,
    ⟨(some 12), .bld [.nilfn, .int .u8 0] [(0, 1, (.t 11)), (1, 1, (.c (.p (.o (.int .u8 5)))))], none, 0⟩,
    ⟨(some 13), .mkf 85 [(.t 3)], none, 0⟩,
    ⟨(some 14), .bld [.nilfn, .int .u8 0] [(0, 1, (.t 13)), (1, 1, (.c (.p (.o (.int .u8 2)))))], none, 0⟩,
    ⟨(some 15), .mkf 86 [(.t 3)], none, 0⟩,
    ⟨(some 16), .bld [.nilfn, .int .u8 0] [(0, 1, (.t 15)), (1, 1, (.c (.p (.o (.int .u8 4)))))], none, 0⟩,
    ⟨(some 17), .mkf 87 [(.t 3)], none, 0⟩,
    ⟨(some 18), .bld [.nilfn, .int .u8 0] [(0, 1, (.t 17)), (1, 1, (.c (.p (.o (.int .u8 3)))))], none, 0⟩,
    ⟨(some 19), .bsl 5 [.nilfn, .int .u8 0, .nilfn, .int .u8 0, .nilfn, .int .u8 0, .nilfn, .int .u8 0, .nilfn, .int .u8 0] [(0, 2, (.t 10)), (2, 2, (.t 12)), (4, 2, (.t 14)), (6, 2, (.t 16)), (8, 2, (.t 18))], none, 0⟩,
    ⟨(some 20), .len true (.t 19), none, 1⟩,
    ⟨(some 21), .mv (.c (.p (.o (.int .i64 0)))), none, 1⟩] 1 none) (.block 0 (.loop (.seq (.reg [
    ⟨(some 22), .bin .lss (.t 21) (.t 20), none, 0⟩] 0 none) (.seq (.cond (.t 22) .skip (.exit 0)) (.seq (.block 1 (.seq (.reg [
    ⟨(some 23), .iad 2 (.t 19) (.t 21), none, 0⟩,
    ⟨(some 24), .ld (some 2) (.t 23), none, 0⟩,
    ⟨(some 5), .new [.nilfn, .int .u8 0], none, 0⟩,
    ⟨none, .st 2 (.t 5) (.t 24), none, 1⟩] 1 none) (.seq (.reg [
    ⟨(some 25), .fad 0 (.t 5), none, 0⟩,
    ⟨(some 26), .ld none (.t 25), none, 0⟩,
    ⟨(some 27), .callv (.t 26) [] 0, none, 0⟩] 0 none) (.cond (.t 27) (.seq (.reg [
    ⟨(some 28), .fad 1 (.t 5), none, 0⟩,
    ⟨(some 29), .ld none (.t 28), none, 0⟩,
    ⟨(some 2), .mv (.t 29), none, 0⟩] 0 none) .ret) .skip)))) (.reg [
    ⟨(some 30), .bin .add (.t 21) (.c (.p (.o (.int .i64 1)))), none, 0⟩,
    ⟨(some 21), .mv (.t 30), none, 0⟩] 0 none))))))) (.seq (.reg [
    ⟨(some 2), .mv (.c (.p (.o (.int .u8 0)))), none, 0⟩] 0 none) .ret)))),
  [.tmp 2], 31, [0, 1, 2, 3, 5, 19, 20, 21]⟩
theorem ok_addr_Kind : cFn Try.prog eqsT newsT vf_addr_Kind.keep Try.f55 = some vf_addr_Kind := by kernel_rfl
def vf_addr_parts : VFn := ⟨(.seq (.reg [
    ⟨(some 2), .new [.int .u8 0, .int .u8 0, .int .u8 0, .int .u8 0], none, 0⟩] 1 none) (.seq (.reg [
    ⟨(some 3), .mv (.t 0), none, 0⟩,
    ⟨(some 4), .bin .shr (.t 3) (.c (.p (.o (.int .u64 24)))), none, 0⟩,
    ⟨(some 5), .cvi .u8 (.t 4), none, 0⟩,
    ⟨(some 6), .mv (.t 0), none, 0⟩,
    ⟨(some 7), .bin .shr (.t 6) (.c (.p (.o (.int .u64 16)))), none, 0⟩,
    ⟨(some 8), .cvi .u8 (.t 7), none, 0⟩,
    ⟨(some 9), .mv (.t 0), none, 0⟩,
    ⟨(some 10), .bin .shr (.t 9) (.c (.p (.o (.int .u64 8)))), none, 0⟩,
    ⟨(some 11), .cvi .u8 (.t 10), none, 0⟩,
    ⟨(some 12), .mv (.t 0), none, 0⟩,
    ⟨(some 13), .cvi .u8 (.t 12), none, 0⟩,
    ⟨(some 14), .bld [.int .u8 0, .int .u8 0, .int .u8 0, .int .u8 0] [(0, 1, (.t 5)), (1, 1, (.t 8)), (2, 1, (.t 11)), (3, 1, (.t 13))], none, 0⟩,
    ⟨none, .st 4 (.t 2) (.t 14), none, 0⟩] 0 none) .ret)),
  [.cell 2 (some 4)], 15, [0, 2]⟩
theorem ok_addr_parts : cFn Try.prog eqsT newsT vf_addr_parts.keep Try.f82 = some vf_addr_parts := by kernel_rfl
def vf_addr_Kind_1 : VFn := ⟨(.seq (.reg [
    ⟨(some 1), .mv (.c (.p (.o (.bool false)))), none, 0⟩] 0 none) (.seq (.reg [
    ⟨(some 2), .ld none (.t 0), none, 0⟩,
    ⟨(some 3), .bin .eql (.t 2) (.c (.p (.o (.int .u32 0)))), none, 0⟩,
    ⟨(some 1), .mv (.t 3), none, 0⟩] 0 none) .ret)),
  [.tmp 1], 4, [0, 1]⟩
theorem ok_addr_Kind_1 : cFn Try.prog eqsT newsT vf_addr_Kind_1.keep Try.f83 = some vf_addr_Kind_1 := by kernel_rfl
def vf_addr_Kind_2 : VFn := ⟨(.seq (.reg [
    ⟨(some 1), .mv (.c (.p (.o (.bool false)))), none, 0⟩] 0 none) (.seq (.reg [
    ⟨(some 2), .ld none (.t 0), none, 0⟩,
    ⟨(some 3), .bin .eql (.t 2) (.c (.p (.o (.int .u32 4294967295)))), none, 0⟩,
    ⟨(some 1), .mv (.t 3), none, 0⟩] 0 none) .ret)),
  [.tmp 1], 4, [0, 1]⟩
theorem ok_addr_Kind_2 : cFn Try.prog eqsT newsT vf_addr_Kind_2.keep Try.f84 = some vf_addr_Kind_2 := by kernel_rfl
def vf_addr_Kind_3 : VFn := ⟨(.seq (.reg [
    ⟨(some 1), .mv (.c (.p (.o (.bool false)))), none, 0⟩] 0 none) (.seq (.reg [
    ⟨(some 2), .ld none (.t 0), none, 0⟩,
    ⟨(some 3), .bin .eql (.t 2) (.c (.p (.o (.int .u8 127)))), none, 0⟩,
    ⟨(some 1), .mv (.t 3), none, 0⟩] 0 none) .ret)),
  [.tmp 1], 4, [0, 1]⟩
theorem ok_addr_Kind_3 : cFn Try.prog eqsT newsT vf_addr_Kind_3.keep Try.f85 = some vf_addr_Kind_3 := by kernel_rfl
def vf_addr_Kind_4 : VFn := ⟨(.seq (.reg [
    ⟨(some 1), .mv (.c (.p (.o (.bool false)))), none, 0⟩] 0 none) (.seq (.reg [
    ⟨(some 2), .ld none (.t 0), none, 0⟩,
    ⟨(some 3), .bin .geq (.t 2) (.c (.p (.o (.int .u8 240)))), none, 0⟩,
    ⟨(some 1), .mv (.t 3), none, 0⟩] 0 none) .ret)),
  [.tmp 1], 4, [0, 1]⟩
theorem ok_addr_Kind_4 : cFn Try.prog eqsT newsT vf_addr_Kind_4.keep Try.f86 = some vf_addr_Kind_4 := by kernel_rfl
def vf_addr_Kind_5 : VFn := ⟨(.seq (.reg [
    ⟨(some 1), .mv (.c (.p (.o (.bool false)))), none, 0⟩] 0 none) (.seq (.reg [
    ⟨(some 2), .ld none (.t 0), none, 0⟩,
    ⟨(some 3), .bin .geq (.t 2) (.c (.p (.o (.int .u8 224)))), none, 0⟩,
    ⟨(some 1), .mv (.t 3), none, 0⟩] 0 none) .ret)),
  [.tmp 1], 4, [0, 1]⟩
theorem ok_addr_Kind_5 : cFn Try.prog eqsT newsT vf_addr_Kind_5.keep Try.f87 = some vf_addr_Kind_5 := by kernel_rfl
def vf_slices_Contains___uint8_uint8_ : VFn := ⟨(.seq (.reg [
    ⟨(some 4), .mv (.c (.p (.o (.bool false)))), none, 0⟩] 0 none) (.seq (.reg [
    ⟨(some 5), .mv (.t 0), none, 0⟩,
    ⟨(some 6), .mv (.t 1), none, 0⟩,
    ⟨(some 7), .call 96 [(.t 5), (.t 6)] 0, none, 0⟩,
    ⟨(some 8), .bin .geq (.t 7) (.c (.p (.o (.int .i64 0)))), none, 0⟩,
    ⟨(some 4), .mv (.t 8), none, 0⟩] 0 none) .ret)),
  [.tmp 4], 9, [0, 1, 4]⟩
theorem ok_slices_Contains___uint8_uint8_ : cFn Try.prog eqsT newsT vf_slices_Contains___uint8_uint8_.keep Try.f81 = some vf_slices_Contains___uint8_uint8_ := by kernel_rfl
def vf_slices_Index___uint8_uint8_ : VFn := ⟨(.seq (.reg [
    ⟨(some 4), .mv (.c (.p (.o (.int .i64 0)))), none, 0⟩] 0 none) (.seq (.seq (.reg [
    ⟨(some 6), .mv (.t 0), none, 0⟩,
    ⟨(some 7), .len true (.t 6), none, 0⟩,
    ⟨(some 8), .mv (.c (.p (.o (.int .i64 0)))), none, 0⟩] 0 none) (.block 0 (.loop (.seq (.reg [
    ⟨(some 9), .bin .lss (.t 8) (.t 7), none, 0⟩] 0 none) (.seq (.cond (.t 9) .skip (.exit 0)) (.seq (.block 1 (.seq (.reg [
    ⟨(some 10), .mv (.t 8), none, 0⟩,
    ⟨(some 5), .mv (.t 10), none, 0⟩] 0 none) (.seq (.reg [
    ⟨(some 11), .mv (.t 1), none, 0⟩,
    ⟨(some 12), .mv (.t 0), none, 0⟩,
    ⟨(some 13), .mv (.t 5), none, 0⟩,
    ⟨(some 14), .iad 1 (.t 12) (.t 13), none, 0⟩,
    ⟨(some 15), .ld none (.t 14), none, 0⟩,
    ⟨(some 16), .bin .eql (.t 11) (.t 15), none, 0⟩] 0 none) (.cond (.t 16) (.seq (.reg [
    ⟨(some 17), .mv (.t 5), none, 0⟩,
    ⟨(some 4), .mv (.t 17), none, 0⟩] 0 none) .ret) .skip)))) (.reg [
    ⟨(some 18), .bin .add (.t 8) (.c (.p (.o (.int .i64 1)))), none, 0⟩,
    ⟨(some 8), .mv (.t 18), none, 0⟩] 0 none))))))) (.seq (.reg [
    ⟨(some 4), .mv (.c (.p (.o (.int .i64 (-1))))), none, 0⟩] 0 none) .ret))),
  [.tmp 4], 19, [0, 1, 4, 5, 7, 8]⟩
theorem ok_slices_Index___uint8_uint8_ : cFn Try.prog eqsT newsT vf_slices_Index___uint8_uint8_.keep Try.f96 = some vf_slices_Index___uint8_uint8_ := by kernel_rfl
def vf_ref06_Kind : VFn := ⟨(.seq (.reg [
    ⟨(some 2), .mv (.c (.p (.o (.int .u8 0)))), none, 0⟩] 0 none) (.seq (.reg [
    ⟨(some 4), .mv (.t 0), none, 0⟩,
    ⟨(some 5), .bin .shr (.t 4) (.c (.p (.o (.int .u64 24)))), none, 0⟩,
    ⟨(some 3), .mv (.t 5), none, 0⟩] 0 none) (.seq (.block 0 (.seq (.reg [
    ⟨(some 7), .mv (.t 0), none, 0⟩,
    ⟨(some 8), .bin .eql (.t 7) (.c (.p (.o (.int .u32 0)))), none, 0⟩,
    ⟨(some 6), .mv (.t 8), none, 0⟩] 0 none) (.cond (.t 6) (.seq (.reg [
    ⟨(some 2), .mv (.c (.p (.o (.int .u8 1)))), none, 0⟩] 0 none) .ret) (.seq (.reg [
    ⟨(some 10), .mv (.t 0), none, 0⟩,
    ⟨(some 11), .bin .eql (.t 10) (.c (.p (.o (.int .u32 4294967295)))), none, 0⟩,
    ⟨(some 9), .mv (.t 11), none, 0⟩] 0 none) (.cond (.t 9) (.seq (.reg [
    ⟨(some 2), .mv (.c (.p (.o (.int .u8 5)))), none, 0⟩] 0 none) .ret) (.seq (.reg [
    ⟨(some 13), .mv (.t 3), none, 0⟩,
    ⟨(some 14), .bin .eql (.t 13) (.c (.p (.o (.int .u32 127)))), none, 0⟩,
    ⟨(some 12), .mv (.t 14), none, 0⟩] 0 none) (.cond (.t 12) (.seq (.reg [
    ⟨(some 2), .mv (.c (.p (.o (.int .u8 2)))), none, 0⟩] 0 none) .ret) (.seq (.reg [
    ⟨(some 16), .mv (.t 3), none, 0⟩,
    ⟨(some 17), .bin .geq (.t 16) (.c (.p (.o (.int .u32 240)))), none, 0⟩,
    ⟨(some 15), .mv (.t 17), none, 0⟩] 0 none) (.cond (.t 15) (.seq (.reg [
    ⟨(some 2), .mv (.c (.p (.o (.int .u8 4)))), none, 0⟩] 0 none) .ret) (.seq (.reg [
    ⟨(some 19), .mv (.t 3), none, 0⟩,
    ⟨(some 20), .bin .geq (.t 19) (.c (.p (.o (.int .u32 224)))), none, 0⟩,
    ⟨(some 18), .mv (.t 20), none, 0⟩] 0 none) (.cond (.t 18) (.seq (.reg [
    ⟨(some 2), .mv (.c (.p (.o (.int .u8 3)))), none, 0⟩] 0 none) .ret) .skip))))))))))) (.seq (.reg [
    ⟨(some 2), .mv (.c (.p (.o (.int .u8 0)))), none, 0⟩] 0 none) .ret)))),
  [.tmp 2], 21, [0, 2, 3]⟩
theorem ok_ref06_Kind : cFn Try.prog eqsT newsT vf_ref06_Kind.keep Try.f58 = some vf_ref06_Kind := by kernel_rfl
abbrev msg (ty co w : Int) (d : ByteArray) : List SV := [.int .u8 ty, .int .u8 co, .int .u32 w, .str d]
def raw14 (ty co w : Int) (d : ByteArray) : ByteArray := ⟨#[UInt8.ofNat ty.toNat, UInt8.ofNat co.toNat]⟩ ++ Sp.ofB (65535 - Sp.sumB (⟨#[UInt8.ofNat ty.toNat, UInt8.ofNat co.toNat]⟩ ++ (Sp.ofB w 4 ++ d))) 2 ++ (Sp.ofB w 4 ++ d)
def enc14 (ty co w : Int) (d : ByteArray) : ByteArray := if (d.size : Int) > 65507 then ⟨#[]⟩ else raw14 ty co w d
def enc14e (d : ByteArray) : Int := if (d.size : Int) > 65507 then 4 else 0
def dec14e (s : ByteArray) : Int := if (s.size : Int) < 8 then 10 else if ¬ Sp.sumB s = 65535 then 101 else 0
def dec14 (s : ByteArray) : List SV := if dec14e s = 0 then msg (bAt s (Int.toNat 0)) (bAt s (Int.toNat 1)) (n4 s 4) (s.extract (Int.toNat 8) s.size) else msg 0 0 0 ⟨#[]⟩
theorem enc14_no (ty co w : Int) (d : ByteArray) (h : (d.size : Int) > 65507) : V.t [.o (.str ⟨#[]⟩), .o (.int .i64 4)] = .t [.o (.str (enc14 ty co w d)), .o (.int .i64 (enc14e d))] := by unfold enc14 enc14e; rw [if_pos h, if_pos h]
theorem enc14_yes (ty co w : Int) (d : ByteArray) (h : ¬ (d.size : Int) > 65507) : V.t [.o (.str (raw14 ty co w d)), .o (.int .i64 0)] = .t [.o (.str (enc14 ty co w d)), .o (.int .i64 (enc14e d))] := by unfold enc14 enc14e; rw [if_neg h, if_neg h]
theorem dec14_no (s : ByteArray) {e : Int} (h : dec14e s = e) (h0 : ¬ e = 0) : V.t [.a (msg 0 0 0 ⟨#[]⟩), .o (.int .i64 e)] = .t [.a (dec14 s), .o (.int .i64 (dec14e s))] := by subst h; unfold dec14; rw [if_neg h0]
theorem dec14_yes (s : ByteArray) (h : dec14e s = 0) : V.t [.a (msg (bAt s (Int.toNat 0)) (bAt s (Int.toNat 1)) (n4 s 4) (s.extract (Int.toNat 8) s.size)), .o (.int .i64 0)] = .t [.a (dec14 s), .o (.int .i64 (dec14e s))] := by unfold dec14; rw [if_pos h, h]
set_option maxHeartbeats 1000000 in
theorem enc14_det (ty co w : Int) (d : ByteArray) (hty : 0 ≤ ty ∧ ty ≤ 255) (hco : 0 ≤ co ∧ co ≤ 255) (hw : 0 ≤ w ∧ w ≤ 4294967295) (hd : d.size ≤ 1000000) : Det Try.prog 15 [.a (msg ty co w d)] [] (.t [.o (.str (enc14 ty co w d)), .o (.int .i64 (enc14e d))]) [] := by
  refine can_of_W known mix Try.func15 (by kernel_rfl) ok_icmp_Encode (Nat.le_of_ble_eq_true rfl) ?_
  repeat' ((conv => whnf); first
    | ((with_reducible refine Look.mk ?_); refine ⟨_, rfl, ?_⟩)
    | ((with_reducible refine LookN.zeros ?_))
    | ((with_reducible refine LookN.bytes ?_ ?_); (simp; done))
    | ((with_reducible refine BytesW.bytes ?_))
    | ((with_reducible refine Look.byte ?_ ?_); omega)
    | ((with_reducible refine Look.setb ?_ ?_ ?_); exact bv8_bd _; omega)
    | ((with_reducible refine LookN.setb ?_ ?_ ?_); exact bv8_bd _; omega)
    | ((with_reducible refine LookN.mk ?_); refine ⟨_, rfl, ?_⟩)
    | ((with_reducible refine Need.mk ?_ ?_); first | ((with_reducible refine needB ?_); kernel_rfl) | exact rfl | trivial | omega | exact Nat.le_of_ble_eq_true rfl | (exact ⟨rfl, by omega⟩) | (intro h; first | rfl | cases h) | (simp only [lenS_text, lenS_setN, lenS_zeros]; omega) | (simp only [ByteArray.size_append, size_lit, List.size_toArray, List.length_cons, List.length_nil, Sp.ofB_size]; omega))
    | ((with_reducible refine BytesW.mk ?_); refine ⟨_, rfl, ?_⟩)
    | (with_reducible refine CallW.det (wordOf4 _ (by omega)) ?_)
    | (with_reducible refine CallW.det (wordOf2 _ (by first | omega | exact sumB64 _)) ?_)
    | (with_reducible refine CallW.det (sumOf2 _ _ _ _ (by simp only [ByteArray.size_append, size_lit, List.size_toArray, List.length_cons, List.length_nil, Sp.ofB_size]; omega)) ?_)
    | ((with_reducible refine Arith.u64 ?_ ?_); exact sumB64 _)
    | ((with_reducible refine Arith.u16 ?_ ?_); exact sumB_le _)
    | ((with_reducible refine Test.tmodEqT ?_ ?_ ?_); omega; focus omega)
    | ((with_reducible refine Test.tmodEqF ?_ ?_ ?_); omega; focus omega)
    | ((with_reducible refine Test.tmodNeT ?_ ?_ ?_); omega; focus omega)
    | ((with_reducible refine Test.tmodNeF ?_ ?_ ?_); omega; focus omega)
    | ((with_reducible refine Test.tmodEq ?_ (fun h => ?_) (fun h => ?_)); omega)
    | ((with_reducible refine Test.tmodNe ?_ (fun h => ?_) (fun h => ?_)); omega)
    | (with_reducible refine Test.shru8_4 (fun h => ?_) (fun h => ?_))
    | (with_reducible refine Test.shreu8_4 (fun h => ?_) (fun h => ?_))
    | (with_reducible refine Test.shreu32_24 (fun h => ?_) (fun h => ?_))
    | (with_reducible refine Test.shrgeu32_24 (fun h => ?_) (fun h => ?_))
    | ((with_reducible refine Test.notT ?_ ?_); focus assumption)
    | ((with_reducible refine Test.notF ?_ ?_); focus assumption)
    | (with_reducible refine Test.notIe (fun h => ?_) (fun h => ?_))
    | (with_reducible refine Test.notD (fun h => ?_) (fun h => ?_))
    | ((with_reducible refine Test.empty (fun h => ?_) (fun h => ?_)))
    | (with_reducible refine Test.tt ?_)
    | (with_reducible refine Test.ff ?_)
    | ((with_reducible refine Test.dt ?_ ?_); omega)
    | ((with_reducible refine Test.df ?_ ?_); omega)
    | (with_reducible refine Test.d (fun h => ?_) (fun h => ?_))
    | ((with_reducible refine Test.ieT ?_ ?_); omega)
    | ((with_reducible refine Test.ieF ?_ ?_); omega)
    | ((with_reducible refine Test.neT ?_ ?_); omega)
    | ((with_reducible refine Test.neF ?_ ?_); omega)
    | (with_reducible refine Test.ie (fun h => ?_) (fun h => ?_))
    | (with_reducible refine Test.ne (fun h => ?_) (fun h => ?_))
    | ((with_reducible refine Test.b ?_ ?_); (focus first | assumption | (simp [negB]; done) | exact rfl))
    | ((with_reducible refine Test.nb ?_ ?_); (focus first | assumption | (simp [negB]; done) | exact rfl))
    | (with_reducible refine Test.notS (fun h => ?_) (fun h => ?_))
    | (with_reducible refine Test.mk (fun h => ?_) (fun h => ?_))
    | (with_reducible refine Arith.nsu32_24 ?_)
    | (with_reducible refine Arith.nsu32_16 ?_)
    | (with_reducible refine Arith.nsu32_8 ?_)
    | ((with_reducible refine Arith.andu8_15 ?_ ?_); omega)
    | ((with_reducible refine Arith.andu16_8191 ?_ ?_); omega)
    | ((with_reducible refine Arith.bitu16_16384 ?_ ?_); omega)
    | ((with_reducible refine Arith.bitu16_8192 ?_ ?_); omega)
    | ((with_reducible refine Arith.andu64_8191 ?_ ?_); omega)
    | ((with_reducible refine Arith.bitu64_16384 ?_ ?_); omega)
    | ((with_reducible refine Arith.bitu64_8192 ?_ ?_); omega)
    | ((with_reducible refine Arith.tdiv ?_ ?_); omega)
    | (with_reducible refine Arith.bv8 ?_)
    | (with_reducible refine Arith.bv16 ?_)
    | (with_reducible refine Arith.bv32 ?_)
    | (with_reducible refine Arith.bv64 ?_)
    | ((with_reducible refine Arith.i64 ?_ ?_); omega)
    | ((with_reducible refine Arith.u64 ?_ ?_); omega)
    | ((with_reducible refine Arith.u32 ?_ ?_); omega)
    | ((with_reducible refine Arith.u16 ?_ ?_); omega)
    | ((with_reducible refine Arith.u8 ?_ ?_); omega)
    | ((with_reducible refine Arith.i32 ?_ ?_); omega)
    | ((with_reducible refine Arith.i64 ?_ ?_); simp (discharger := omega) only [Int.tdiv_eq_ediv_of_nonneg, shr_u8_4, shl_u8_4, shr_u16_4, shl_u16_4, shr_u16_8, shl_u16_8, shr_u32_4, shl_u32_4, shr_u32_8, shl_u32_8, shr_u32_16, shl_u32_16, shr_u32_24, shl_u32_24, shr_u64_4, shl_u64_4, shr_u64_8, shl_u64_8, shr_u64_16, shl_u64_16, shr_u64_24, shl_u64_24, shr_u64_40, shl_u64_40, shr_i64_4, shl_i64_4, shr_i64_8, shl_i64_8, shr_i64_16, shl_i64_16, shr_i64_24, shl_i64_24, shr_i64_40, shl_i64_40]; omega)
    | ((with_reducible refine Arith.u64 ?_ ?_); simp (discharger := omega) only [Int.tdiv_eq_ediv_of_nonneg, shr_u8_4, shl_u8_4, shr_u16_4, shl_u16_4, shr_u16_8, shl_u16_8, shr_u32_4, shl_u32_4, shr_u32_8, shl_u32_8, shr_u32_16, shl_u32_16, shr_u32_24, shl_u32_24, shr_u64_4, shl_u64_4, shr_u64_8, shl_u64_8, shr_u64_16, shl_u64_16, shr_u64_24, shl_u64_24, shr_u64_40, shl_u64_40, shr_i64_4, shl_i64_4, shr_i64_8, shl_i64_8, shr_i64_16, shl_i64_16, shr_i64_24, shl_i64_24, shr_i64_40, shl_i64_40]; omega)
    | ((with_reducible refine Arith.u32 ?_ ?_); simp (discharger := omega) only [Int.tdiv_eq_ediv_of_nonneg, shr_u8_4, shl_u8_4, shr_u16_4, shl_u16_4, shr_u16_8, shl_u16_8, shr_u32_4, shl_u32_4, shr_u32_8, shl_u32_8, shr_u32_16, shl_u32_16, shr_u32_24, shl_u32_24, shr_u64_4, shl_u64_4, shr_u64_8, shl_u64_8, shr_u64_16, shl_u64_16, shr_u64_24, shl_u64_24, shr_u64_40, shl_u64_40, shr_i64_4, shl_i64_4, shr_i64_8, shl_i64_8, shr_i64_16, shl_i64_16, shr_i64_24, shl_i64_24, shr_i64_40, shl_i64_40]; omega)
    | ((with_reducible refine Arith.u16 ?_ ?_); simp (discharger := omega) only [Int.tdiv_eq_ediv_of_nonneg, shr_u8_4, shl_u8_4, shr_u16_4, shl_u16_4, shr_u16_8, shl_u16_8, shr_u32_4, shl_u32_4, shr_u32_8, shl_u32_8, shr_u32_16, shl_u32_16, shr_u32_24, shl_u32_24, shr_u64_4, shl_u64_4, shr_u64_8, shl_u64_8, shr_u64_16, shl_u64_16, shr_u64_24, shl_u64_24, shr_u64_40, shl_u64_40, shr_i64_4, shl_i64_4, shr_i64_8, shl_i64_8, shr_i64_16, shl_i64_16, shr_i64_24, shl_i64_24, shr_i64_40, shl_i64_40]; omega)
    | ((with_reducible refine Arith.u8 ?_ ?_); simp (discharger := omega) only [Int.tdiv_eq_ediv_of_nonneg, shr_u8_4, shl_u8_4, shr_u16_4, shl_u16_4, shr_u16_8, shl_u16_8, shr_u32_4, shl_u32_4, shr_u32_8, shl_u32_8, shr_u32_16, shl_u32_16, shr_u32_24, shl_u32_24, shr_u64_4, shl_u64_4, shr_u64_8, shl_u64_8, shr_u64_16, shl_u64_16, shr_u64_24, shl_u64_24, shr_u64_40, shl_u64_40, shr_i64_4, shl_i64_4, shr_i64_8, shl_i64_8, shr_i64_16, shl_i64_16, shr_i64_24, shl_i64_24, shr_i64_40, shl_i64_40]; omega)
    | (with_reducible refine Arith.mk ?_)
    | (with_reducible refine Ends.mk ?_))
  all_goals first | exact ⟨enc14_no ty co w d (by assumption), rfl⟩ | (refine ⟨?_, rfl⟩; rw [← enc14_yes ty co w d (by assumption)]; simp only [raw14, app_assoc]; done)
set_option maxHeartbeats 1000000 in
theorem renc14_det (ty co w : Int) (d : ByteArray) (hty : 0 ≤ ty ∧ ty ≤ 255) (hco : 0 ≤ co ∧ co ≤ 255) (hw : 0 ≤ w ∧ w ≤ 4294967295) (hd : d.size ≤ 1000000) : Det Try.prog 16 [.a (msg ty co w d)] [] (.t [.o (.str (enc14 ty co w d)), .o (.int .i64 (enc14e d))]) [] := by
  have hz := sum_zero ⟨#[UInt8.ofNat ty.toNat, UInt8.ofNat co.toNat]⟩ (Sp.ofB w 4 ++ d) (by simp [size_lit])
  refine can_of_W known mix Try.func16 (by kernel_rfl) ok_ref14_Encode (Nat.le_of_ble_eq_true rfl) ?_
  repeat' ((conv => whnf); first
    | ((with_reducible refine Look.mk ?_); refine ⟨_, rfl, ?_⟩)
    | ((with_reducible refine LookN.zeros ?_))
    | ((with_reducible refine LookN.bytes ?_ ?_); (simp; done))
    | ((with_reducible refine BytesW.bytes ?_))
    | ((with_reducible refine Look.byte ?_ ?_); omega)
    | ((with_reducible refine Look.setb ?_ ?_ ?_); exact bv8_bd _; omega)
    | ((with_reducible refine LookN.setb ?_ ?_ ?_); exact bv8_bd _; omega)
    | ((with_reducible refine LookN.mk ?_); refine ⟨_, rfl, ?_⟩)
    | ((with_reducible refine Need.mk ?_ ?_); first | ((with_reducible refine needB ?_); kernel_rfl) | exact rfl | trivial | omega | exact Nat.le_of_ble_eq_true rfl | (exact ⟨rfl, by omega⟩) | (intro h; first | rfl | cases h) | (simp only [lenS_text, lenS_setN, lenS_zeros]; omega) | (simp only [ByteArray.size_append, size_lit, List.size_toArray, List.length_cons, List.length_nil, Sp.ofB_size]; omega))
    | ((with_reducible refine BytesW.mk ?_); refine ⟨_, rfl, ?_⟩)
    | (with_reducible refine CallW.det (rOf4 _ (by omega)) ?_)
    | (with_reducible refine CallW.det (rOf2 _ (by first | omega | exact sumB64 _)) ?_)
    | (with_reducible refine CallW.det (rSum _ (by simp only [ByteArray.size_append, size_lit, List.size_toArray, List.length_cons, List.length_nil, Sp.ofB_size]; unfold maxLen; omega)) ?_)
    | ((with_reducible refine Arith.u64 ?_ ?_); exact sumB64 _)
    | ((with_reducible refine Arith.u16 ?_ ?_); exact sumB_le _)
    | ((with_reducible refine Test.tmodEqT ?_ ?_ ?_); omega; focus omega)
    | ((with_reducible refine Test.tmodEqF ?_ ?_ ?_); omega; focus omega)
    | ((with_reducible refine Test.tmodNeT ?_ ?_ ?_); omega; focus omega)
    | ((with_reducible refine Test.tmodNeF ?_ ?_ ?_); omega; focus omega)
    | ((with_reducible refine Test.tmodEq ?_ (fun h => ?_) (fun h => ?_)); omega)
    | ((with_reducible refine Test.tmodNe ?_ (fun h => ?_) (fun h => ?_)); omega)
    | (with_reducible refine Test.shru8_4 (fun h => ?_) (fun h => ?_))
    | (with_reducible refine Test.shreu8_4 (fun h => ?_) (fun h => ?_))
    | (with_reducible refine Test.shreu32_24 (fun h => ?_) (fun h => ?_))
    | (with_reducible refine Test.shrgeu32_24 (fun h => ?_) (fun h => ?_))
    | ((with_reducible refine Test.notT ?_ ?_); focus assumption)
    | ((with_reducible refine Test.notF ?_ ?_); focus assumption)
    | (with_reducible refine Test.notIe (fun h => ?_) (fun h => ?_))
    | (with_reducible refine Test.notD (fun h => ?_) (fun h => ?_))
    | ((with_reducible refine Test.empty (fun h => ?_) (fun h => ?_)))
    | (with_reducible refine Test.tt ?_)
    | (with_reducible refine Test.ff ?_)
    | ((with_reducible refine Test.dt ?_ ?_); omega)
    | ((with_reducible refine Test.df ?_ ?_); omega)
    | (with_reducible refine Test.d (fun h => ?_) (fun h => ?_))
    | ((with_reducible refine Test.ieT ?_ ?_); omega)
    | ((with_reducible refine Test.ieF ?_ ?_); omega)
    | ((with_reducible refine Test.neT ?_ ?_); omega)
    | ((with_reducible refine Test.neF ?_ ?_); omega)
    | (with_reducible refine Test.ie (fun h => ?_) (fun h => ?_))
    | (with_reducible refine Test.ne (fun h => ?_) (fun h => ?_))
    | ((with_reducible refine Test.b ?_ ?_); (focus first | assumption | (simp [negB]; done) | exact rfl))
    | ((with_reducible refine Test.nb ?_ ?_); (focus first | assumption | (simp [negB]; done) | exact rfl))
    | (with_reducible refine Test.notS (fun h => ?_) (fun h => ?_))
    | (with_reducible refine Test.mk (fun h => ?_) (fun h => ?_))
    | (with_reducible refine Arith.nsu32_24 ?_)
    | (with_reducible refine Arith.nsu32_16 ?_)
    | (with_reducible refine Arith.nsu32_8 ?_)
    | ((with_reducible refine Arith.andu8_15 ?_ ?_); omega)
    | ((with_reducible refine Arith.andu16_8191 ?_ ?_); omega)
    | ((with_reducible refine Arith.bitu16_16384 ?_ ?_); omega)
    | ((with_reducible refine Arith.bitu16_8192 ?_ ?_); omega)
    | ((with_reducible refine Arith.andu64_8191 ?_ ?_); omega)
    | ((with_reducible refine Arith.bitu64_16384 ?_ ?_); omega)
    | ((with_reducible refine Arith.bitu64_8192 ?_ ?_); omega)
    | ((with_reducible refine Arith.tdiv ?_ ?_); omega)
    | (with_reducible refine Arith.bv8 ?_)
    | (with_reducible refine Arith.bv16 ?_)
    | (with_reducible refine Arith.bv32 ?_)
    | (with_reducible refine Arith.bv64 ?_)
    | ((with_reducible refine Arith.i64 ?_ ?_); omega)
    | ((with_reducible refine Arith.u64 ?_ ?_); omega)
    | ((with_reducible refine Arith.u32 ?_ ?_); omega)
    | ((with_reducible refine Arith.u16 ?_ ?_); omega)
    | ((with_reducible refine Arith.u8 ?_ ?_); omega)
    | ((with_reducible refine Arith.i32 ?_ ?_); omega)
    | ((with_reducible refine Arith.i64 ?_ ?_); simp (discharger := omega) only [Int.tdiv_eq_ediv_of_nonneg, shr_u8_4, shl_u8_4, shr_u16_4, shl_u16_4, shr_u16_8, shl_u16_8, shr_u32_4, shl_u32_4, shr_u32_8, shl_u32_8, shr_u32_16, shl_u32_16, shr_u32_24, shl_u32_24, shr_u64_4, shl_u64_4, shr_u64_8, shl_u64_8, shr_u64_16, shl_u64_16, shr_u64_24, shl_u64_24, shr_u64_40, shl_u64_40, shr_i64_4, shl_i64_4, shr_i64_8, shl_i64_8, shr_i64_16, shl_i64_16, shr_i64_24, shl_i64_24, shr_i64_40, shl_i64_40]; omega)
    | ((with_reducible refine Arith.u64 ?_ ?_); simp (discharger := omega) only [Int.tdiv_eq_ediv_of_nonneg, shr_u8_4, shl_u8_4, shr_u16_4, shl_u16_4, shr_u16_8, shl_u16_8, shr_u32_4, shl_u32_4, shr_u32_8, shl_u32_8, shr_u32_16, shl_u32_16, shr_u32_24, shl_u32_24, shr_u64_4, shl_u64_4, shr_u64_8, shl_u64_8, shr_u64_16, shl_u64_16, shr_u64_24, shl_u64_24, shr_u64_40, shl_u64_40, shr_i64_4, shl_i64_4, shr_i64_8, shl_i64_8, shr_i64_16, shl_i64_16, shr_i64_24, shl_i64_24, shr_i64_40, shl_i64_40]; omega)
    | ((with_reducible refine Arith.u32 ?_ ?_); simp (discharger := omega) only [Int.tdiv_eq_ediv_of_nonneg, shr_u8_4, shl_u8_4, shr_u16_4, shl_u16_4, shr_u16_8, shl_u16_8, shr_u32_4, shl_u32_4, shr_u32_8, shl_u32_8, shr_u32_16, shl_u32_16, shr_u32_24, shl_u32_24, shr_u64_4, shl_u64_4, shr_u64_8, shl_u64_8, shr_u64_16, shl_u64_16, shr_u64_24, shl_u64_24, shr_u64_40, shl_u64_40, shr_i64_4, shl_i64_4, shr_i64_8, shl_i64_8, shr_i64_16, shl_i64_16, shr_i64_24, shl_i64_24, shr_i64_40, shl_i64_40]; omega)
    | ((with_reducible refine Arith.u16 ?_ ?_); simp (discharger := omega) only [Int.tdiv_eq_ediv_of_nonneg, shr_u8_4, shl_u8_4, shr_u16_4, shl_u16_4, shr_u16_8, shl_u16_8, shr_u32_4, shl_u32_4, shr_u32_8, shl_u32_8, shr_u32_16, shl_u32_16, shr_u32_24, shl_u32_24, shr_u64_4, shl_u64_4, shr_u64_8, shl_u64_8, shr_u64_16, shl_u64_16, shr_u64_24, shl_u64_24, shr_u64_40, shl_u64_40, shr_i64_4, shl_i64_4, shr_i64_8, shl_i64_8, shr_i64_16, shl_i64_16, shr_i64_24, shl_i64_24, shr_i64_40, shl_i64_40]; omega)
    | ((with_reducible refine Arith.u8 ?_ ?_); simp (discharger := omega) only [Int.tdiv_eq_ediv_of_nonneg, shr_u8_4, shl_u8_4, shr_u16_4, shl_u16_4, shr_u16_8, shl_u16_8, shr_u32_4, shl_u32_4, shr_u32_8, shl_u32_8, shr_u32_16, shl_u32_16, shr_u32_24, shl_u32_24, shr_u64_4, shl_u64_4, shr_u64_8, shl_u64_8, shr_u64_16, shl_u64_16, shr_u64_24, shl_u64_24, shr_u64_40, shl_u64_40, shr_i64_4, shl_i64_4, shr_i64_8, shl_i64_8, shr_i64_16, shl_i64_16, shr_i64_24, shl_i64_24, shr_i64_40, shl_i64_40]; omega)
    | (with_reducible refine Arith.mk ?_)
    | (with_reducible refine Ends.mk ?_))
  all_goals first | exact ⟨enc14_no ty co w d (by assumption), rfl⟩ | (refine ⟨?_, rfl⟩; rw [← enc14_yes ty co w d (by assumption)]; simp only [raw14, app_assoc, hz]; done)
set_option maxHeartbeats 1000000 in
theorem dec14_det (s : ByteArray) (hs : s.size ≤ 1000000) : Det Try.prog 17 [.o (.str s)] [] (.t [.a (dec14 s), .o (.int .i64 (dec14e s))]) [] := by
  refine can_of_W known mix Try.func17 (by kernel_rfl) ok_icmp_Decode (Nat.le_of_ble_eq_true rfl) ?_
  repeat' ((conv => whnf); first
    | ((with_reducible refine Look.mk ?_); refine ⟨_, rfl, ?_⟩)
    | ((with_reducible refine LookN.zeros ?_))
    | ((with_reducible refine LookN.bytes ?_ ?_); (simp; done))
    | ((with_reducible refine BytesW.bytes ?_))
    | ((with_reducible refine Look.byte ?_ ?_); omega)
    | ((with_reducible refine Look.setb ?_ ?_ ?_); exact bv8_bd _; omega)
    | ((with_reducible refine LookN.setb ?_ ?_ ?_); exact bv8_bd _; omega)
    | ((with_reducible refine LookN.mk ?_); refine ⟨_, rfl, ?_⟩)
    | ((with_reducible refine Need.mk ?_ ?_); first | ((with_reducible refine needB ?_); kernel_rfl) | exact rfl | trivial | omega | exact Nat.le_of_ble_eq_true rfl | (exact ⟨rfl, by omega⟩) | (intro h; first | rfl | cases h) | (simp only [lenS_text, lenS_setN, lenS_zeros]; omega) | (simp only [ByteArray.size_append, size_lit, List.size_toArray, List.length_cons, List.length_nil, Sp.ofB_size]; omega))
    | ((with_reducible refine BytesW.mk ?_); refine ⟨_, rfl, ?_⟩)
    | (with_reducible refine CallW.det (wordFour _ _ (by unfold maxLen; omega) (by omega)) ?_)
    | (with_reducible refine CallW.det (sumRight1 _ _ _ (by omega)) ?_)
    | (with_reducible refine Arith.n2i ?_)
    | (with_reducible refine Arith.n4i ?_)
    | ((with_reducible refine Test.tmodEqT ?_ ?_ ?_); omega; focus omega)
    | ((with_reducible refine Test.tmodEqF ?_ ?_ ?_); omega; focus omega)
    | ((with_reducible refine Test.tmodNeT ?_ ?_ ?_); omega; focus omega)
    | ((with_reducible refine Test.tmodNeF ?_ ?_ ?_); omega; focus omega)
    | ((with_reducible refine Test.tmodEq ?_ (fun h => ?_) (fun h => ?_)); omega)
    | ((with_reducible refine Test.tmodNe ?_ (fun h => ?_) (fun h => ?_)); omega)
    | (with_reducible refine Test.shru8_4 (fun h => ?_) (fun h => ?_))
    | (with_reducible refine Test.shreu8_4 (fun h => ?_) (fun h => ?_))
    | (with_reducible refine Test.shreu32_24 (fun h => ?_) (fun h => ?_))
    | (with_reducible refine Test.shrgeu32_24 (fun h => ?_) (fun h => ?_))
    | ((with_reducible refine Test.notT ?_ ?_); focus assumption)
    | ((with_reducible refine Test.notF ?_ ?_); focus assumption)
    | (with_reducible refine Test.notIe (fun h => ?_) (fun h => ?_))
    | (with_reducible refine Test.notD (fun h => ?_) (fun h => ?_))
    | ((with_reducible refine Test.empty (fun h => ?_) (fun h => ?_)))
    | (with_reducible refine Test.tt ?_)
    | (with_reducible refine Test.ff ?_)
    | ((with_reducible refine Test.dt ?_ ?_); omega)
    | ((with_reducible refine Test.df ?_ ?_); omega)
    | (with_reducible refine Test.d (fun h => ?_) (fun h => ?_))
    | ((with_reducible refine Test.ieT ?_ ?_); omega)
    | ((with_reducible refine Test.ieF ?_ ?_); omega)
    | ((with_reducible refine Test.neT ?_ ?_); omega)
    | ((with_reducible refine Test.neF ?_ ?_); omega)
    | (with_reducible refine Test.ie (fun h => ?_) (fun h => ?_))
    | (with_reducible refine Test.ne (fun h => ?_) (fun h => ?_))
    | ((with_reducible refine Test.b ?_ ?_); (focus first | assumption | (simp [negB]; done) | exact rfl))
    | ((with_reducible refine Test.nb ?_ ?_); (focus first | assumption | (simp [negB]; done) | exact rfl))
    | (with_reducible refine Test.notS (fun h => ?_) (fun h => ?_))
    | (with_reducible refine Test.mk (fun h => ?_) (fun h => ?_))
    | (with_reducible refine Arith.nsu32_24 ?_)
    | (with_reducible refine Arith.nsu32_16 ?_)
    | (with_reducible refine Arith.nsu32_8 ?_)
    | ((with_reducible refine Arith.andu8_15 ?_ ?_); omega)
    | ((with_reducible refine Arith.andu16_8191 ?_ ?_); omega)
    | ((with_reducible refine Arith.bitu16_16384 ?_ ?_); omega)
    | ((with_reducible refine Arith.bitu16_8192 ?_ ?_); omega)
    | ((with_reducible refine Arith.andu64_8191 ?_ ?_); omega)
    | ((with_reducible refine Arith.bitu64_16384 ?_ ?_); omega)
    | ((with_reducible refine Arith.bitu64_8192 ?_ ?_); omega)
    | ((with_reducible refine Arith.tdiv ?_ ?_); omega)
    | (with_reducible refine Arith.bv8 ?_)
    | (with_reducible refine Arith.bv16 ?_)
    | (with_reducible refine Arith.bv32 ?_)
    | (with_reducible refine Arith.bv64 ?_)
    | ((with_reducible refine Arith.i64 ?_ ?_); omega)
    | ((with_reducible refine Arith.u64 ?_ ?_); omega)
    | ((with_reducible refine Arith.u32 ?_ ?_); omega)
    | ((with_reducible refine Arith.u16 ?_ ?_); omega)
    | ((with_reducible refine Arith.u8 ?_ ?_); omega)
    | ((with_reducible refine Arith.i32 ?_ ?_); omega)
    | ((with_reducible refine Arith.i64 ?_ ?_); simp (discharger := omega) only [Int.tdiv_eq_ediv_of_nonneg, shr_u8_4, shl_u8_4, shr_u16_4, shl_u16_4, shr_u16_8, shl_u16_8, shr_u32_4, shl_u32_4, shr_u32_8, shl_u32_8, shr_u32_16, shl_u32_16, shr_u32_24, shl_u32_24, shr_u64_4, shl_u64_4, shr_u64_8, shl_u64_8, shr_u64_16, shl_u64_16, shr_u64_24, shl_u64_24, shr_u64_40, shl_u64_40, shr_i64_4, shl_i64_4, shr_i64_8, shl_i64_8, shr_i64_16, shl_i64_16, shr_i64_24, shl_i64_24, shr_i64_40, shl_i64_40]; omega)
    | ((with_reducible refine Arith.u64 ?_ ?_); simp (discharger := omega) only [Int.tdiv_eq_ediv_of_nonneg, shr_u8_4, shl_u8_4, shr_u16_4, shl_u16_4, shr_u16_8, shl_u16_8, shr_u32_4, shl_u32_4, shr_u32_8, shl_u32_8, shr_u32_16, shl_u32_16, shr_u32_24, shl_u32_24, shr_u64_4, shl_u64_4, shr_u64_8, shl_u64_8, shr_u64_16, shl_u64_16, shr_u64_24, shl_u64_24, shr_u64_40, shl_u64_40, shr_i64_4, shl_i64_4, shr_i64_8, shl_i64_8, shr_i64_16, shl_i64_16, shr_i64_24, shl_i64_24, shr_i64_40, shl_i64_40]; omega)
    | ((with_reducible refine Arith.u32 ?_ ?_); simp (discharger := omega) only [Int.tdiv_eq_ediv_of_nonneg, shr_u8_4, shl_u8_4, shr_u16_4, shl_u16_4, shr_u16_8, shl_u16_8, shr_u32_4, shl_u32_4, shr_u32_8, shl_u32_8, shr_u32_16, shl_u32_16, shr_u32_24, shl_u32_24, shr_u64_4, shl_u64_4, shr_u64_8, shl_u64_8, shr_u64_16, shl_u64_16, shr_u64_24, shl_u64_24, shr_u64_40, shl_u64_40, shr_i64_4, shl_i64_4, shr_i64_8, shl_i64_8, shr_i64_16, shl_i64_16, shr_i64_24, shl_i64_24, shr_i64_40, shl_i64_40]; omega)
    | ((with_reducible refine Arith.u16 ?_ ?_); simp (discharger := omega) only [Int.tdiv_eq_ediv_of_nonneg, shr_u8_4, shl_u8_4, shr_u16_4, shl_u16_4, shr_u16_8, shl_u16_8, shr_u32_4, shl_u32_4, shr_u32_8, shl_u32_8, shr_u32_16, shl_u32_16, shr_u32_24, shl_u32_24, shr_u64_4, shl_u64_4, shr_u64_8, shl_u64_8, shr_u64_16, shl_u64_16, shr_u64_24, shl_u64_24, shr_u64_40, shl_u64_40, shr_i64_4, shl_i64_4, shr_i64_8, shl_i64_8, shr_i64_16, shl_i64_16, shr_i64_24, shl_i64_24, shr_i64_40, shl_i64_40]; omega)
    | ((with_reducible refine Arith.u8 ?_ ?_); simp (discharger := omega) only [Int.tdiv_eq_ediv_of_nonneg, shr_u8_4, shl_u8_4, shr_u16_4, shl_u16_4, shr_u16_8, shl_u16_8, shr_u32_4, shl_u32_4, shr_u32_8, shl_u32_8, shr_u32_16, shl_u32_16, shr_u32_24, shl_u32_24, shr_u64_4, shl_u64_4, shr_u64_8, shl_u64_8, shr_u64_16, shl_u64_16, shr_u64_24, shl_u64_24, shr_u64_40, shl_u64_40, shr_i64_4, shl_i64_4, shr_i64_8, shl_i64_8, shr_i64_16, shl_i64_16, shr_i64_24, shl_i64_24, shr_i64_40, shl_i64_40]; omega)
    | (with_reducible refine Arith.mk ?_)
    | (with_reducible refine Ends.mk ?_))
  all_goals refine ⟨?_, rfl⟩
  all_goals first
    | (refine dec14_no s ?_ (by decide); unfold dec14e; (repeat (first | rw [if_pos (by omega)] | rw [if_neg (by omega)])); done)
    | (refine dec14_yes s ?_; unfold dec14e; (repeat (first | rw [if_pos (by omega)] | rw [if_neg (by omega)])); done)
set_option maxHeartbeats 1000000 in
theorem rdec14_det (s : ByteArray) (hs : s.size ≤ 1000000) : Det Try.prog 18 [.o (.str s)] [] (.t [.a (dec14 s), .o (.int .i64 (dec14e s))]) [] := by
  refine can_of_W known mix Try.func18 (by kernel_rfl) ok_ref14_Decode (Nat.le_of_ble_eq_true rfl) ?_
  repeat' ((conv => whnf); first
    | ((with_reducible refine Look.mk ?_); refine ⟨_, rfl, ?_⟩)
    | ((with_reducible refine LookN.zeros ?_))
    | ((with_reducible refine LookN.bytes ?_ ?_); (simp; done))
    | ((with_reducible refine BytesW.bytes ?_))
    | ((with_reducible refine Look.byte ?_ ?_); omega)
    | ((with_reducible refine Look.setb ?_ ?_ ?_); exact bv8_bd _; omega)
    | ((with_reducible refine LookN.setb ?_ ?_ ?_); exact bv8_bd _; omega)
    | ((with_reducible refine LookN.mk ?_); refine ⟨_, rfl, ?_⟩)
    | ((with_reducible refine Need.mk ?_ ?_); first | ((with_reducible refine needB ?_); kernel_rfl) | exact rfl | trivial | omega | exact Nat.le_of_ble_eq_true rfl | (exact ⟨rfl, by omega⟩) | (intro h; first | rfl | cases h) | (simp only [lenS_text, lenS_setN, lenS_zeros]; omega) | (simp only [ByteArray.size_append, size_lit, List.size_toArray, List.length_cons, List.length_nil, Sp.ofB_size]; omega))
    | ((with_reducible refine BytesW.mk ?_); refine ⟨_, rfl, ?_⟩)
    | (with_reducible refine CallW.det (rNum4 _ _ (by omega) (by omega) (by omega)) ?_)
    | (with_reducible refine CallW.det (rRight _ (by unfold maxLen; omega)) ?_)
    | (with_reducible refine Arith.n2i ?_)
    | (with_reducible refine Arith.n4i ?_)
    | ((with_reducible refine Test.tmodEqT ?_ ?_ ?_); omega; focus omega)
    | ((with_reducible refine Test.tmodEqF ?_ ?_ ?_); omega; focus omega)
    | ((with_reducible refine Test.tmodNeT ?_ ?_ ?_); omega; focus omega)
    | ((with_reducible refine Test.tmodNeF ?_ ?_ ?_); omega; focus omega)
    | ((with_reducible refine Test.tmodEq ?_ (fun h => ?_) (fun h => ?_)); omega)
    | ((with_reducible refine Test.tmodNe ?_ (fun h => ?_) (fun h => ?_)); omega)
    | (with_reducible refine Test.shru8_4 (fun h => ?_) (fun h => ?_))
    | (with_reducible refine Test.shreu8_4 (fun h => ?_) (fun h => ?_))
    | (with_reducible refine Test.shreu32_24 (fun h => ?_) (fun h => ?_))
    | (with_reducible refine Test.shrgeu32_24 (fun h => ?_) (fun h => ?_))
    | ((with_reducible refine Test.notT ?_ ?_); focus assumption)
    | ((with_reducible refine Test.notF ?_ ?_); focus assumption)
    | (with_reducible refine Test.notIe (fun h => ?_) (fun h => ?_))
    | (with_reducible refine Test.notD (fun h => ?_) (fun h => ?_))
    | ((with_reducible refine Test.empty (fun h => ?_) (fun h => ?_)))
    | (with_reducible refine Test.tt ?_)
    | (with_reducible refine Test.ff ?_)
    | ((with_reducible refine Test.dt ?_ ?_); omega)
    | ((with_reducible refine Test.df ?_ ?_); omega)
    | (with_reducible refine Test.d (fun h => ?_) (fun h => ?_))
    | ((with_reducible refine Test.ieT ?_ ?_); omega)
    | ((with_reducible refine Test.ieF ?_ ?_); omega)
    | ((with_reducible refine Test.neT ?_ ?_); omega)
    | ((with_reducible refine Test.neF ?_ ?_); omega)
    | (with_reducible refine Test.ie (fun h => ?_) (fun h => ?_))
    | (with_reducible refine Test.ne (fun h => ?_) (fun h => ?_))
    | ((with_reducible refine Test.b ?_ ?_); (focus first | assumption | (simp [negB]; done) | exact rfl))
    | ((with_reducible refine Test.nb ?_ ?_); (focus first | assumption | (simp [negB]; done) | exact rfl))
    | (with_reducible refine Test.notS (fun h => ?_) (fun h => ?_))
    | (with_reducible refine Test.mk (fun h => ?_) (fun h => ?_))
    | (with_reducible refine Arith.nsu32_24 ?_)
    | (with_reducible refine Arith.nsu32_16 ?_)
    | (with_reducible refine Arith.nsu32_8 ?_)
    | ((with_reducible refine Arith.andu8_15 ?_ ?_); omega)
    | ((with_reducible refine Arith.andu16_8191 ?_ ?_); omega)
    | ((with_reducible refine Arith.bitu16_16384 ?_ ?_); omega)
    | ((with_reducible refine Arith.bitu16_8192 ?_ ?_); omega)
    | ((with_reducible refine Arith.andu64_8191 ?_ ?_); omega)
    | ((with_reducible refine Arith.bitu64_16384 ?_ ?_); omega)
    | ((with_reducible refine Arith.bitu64_8192 ?_ ?_); omega)
    | ((with_reducible refine Arith.tdiv ?_ ?_); omega)
    | (with_reducible refine Arith.bv8 ?_)
    | (with_reducible refine Arith.bv16 ?_)
    | (with_reducible refine Arith.bv32 ?_)
    | (with_reducible refine Arith.bv64 ?_)
    | ((with_reducible refine Arith.i64 ?_ ?_); omega)
    | ((with_reducible refine Arith.u64 ?_ ?_); omega)
    | ((with_reducible refine Arith.u32 ?_ ?_); omega)
    | ((with_reducible refine Arith.u16 ?_ ?_); omega)
    | ((with_reducible refine Arith.u8 ?_ ?_); omega)
    | ((with_reducible refine Arith.i32 ?_ ?_); omega)
    | ((with_reducible refine Arith.i64 ?_ ?_); simp (discharger := omega) only [Int.tdiv_eq_ediv_of_nonneg, shr_u8_4, shl_u8_4, shr_u16_4, shl_u16_4, shr_u16_8, shl_u16_8, shr_u32_4, shl_u32_4, shr_u32_8, shl_u32_8, shr_u32_16, shl_u32_16, shr_u32_24, shl_u32_24, shr_u64_4, shl_u64_4, shr_u64_8, shl_u64_8, shr_u64_16, shl_u64_16, shr_u64_24, shl_u64_24, shr_u64_40, shl_u64_40, shr_i64_4, shl_i64_4, shr_i64_8, shl_i64_8, shr_i64_16, shl_i64_16, shr_i64_24, shl_i64_24, shr_i64_40, shl_i64_40]; omega)
    | ((with_reducible refine Arith.u64 ?_ ?_); simp (discharger := omega) only [Int.tdiv_eq_ediv_of_nonneg, shr_u8_4, shl_u8_4, shr_u16_4, shl_u16_4, shr_u16_8, shl_u16_8, shr_u32_4, shl_u32_4, shr_u32_8, shl_u32_8, shr_u32_16, shl_u32_16, shr_u32_24, shl_u32_24, shr_u64_4, shl_u64_4, shr_u64_8, shl_u64_8, shr_u64_16, shl_u64_16, shr_u64_24, shl_u64_24, shr_u64_40, shl_u64_40, shr_i64_4, shl_i64_4, shr_i64_8, shl_i64_8, shr_i64_16, shl_i64_16, shr_i64_24, shl_i64_24, shr_i64_40, shl_i64_40]; omega)
    | ((with_reducible refine Arith.u32 ?_ ?_); simp (discharger := omega) only [Int.tdiv_eq_ediv_of_nonneg, shr_u8_4, shl_u8_4, shr_u16_4, shl_u16_4, shr_u16_8, shl_u16_8, shr_u32_4, shl_u32_4, shr_u32_8, shl_u32_8, shr_u32_16, shl_u32_16, shr_u32_24, shl_u32_24, shr_u64_4, shl_u64_4, shr_u64_8, shl_u64_8, shr_u64_16, shl_u64_16, shr_u64_24, shl_u64_24, shr_u64_40, shl_u64_40, shr_i64_4, shl_i64_4, shr_i64_8, shl_i64_8, shr_i64_16, shl_i64_16, shr_i64_24, shl_i64_24, shr_i64_40, shl_i64_40]; omega)
    | ((with_reducible refine Arith.u16 ?_ ?_); simp (discharger := omega) only [Int.tdiv_eq_ediv_of_nonneg, shr_u8_4, shl_u8_4, shr_u16_4, shl_u16_4, shr_u16_8, shl_u16_8, shr_u32_4, shl_u32_4, shr_u32_8, shl_u32_8, shr_u32_16, shl_u32_16, shr_u32_24, shl_u32_24, shr_u64_4, shl_u64_4, shr_u64_8, shl_u64_8, shr_u64_16, shl_u64_16, shr_u64_24, shl_u64_24, shr_u64_40, shl_u64_40, shr_i64_4, shl_i64_4, shr_i64_8, shl_i64_8, shr_i64_16, shl_i64_16, shr_i64_24, shl_i64_24, shr_i64_40, shl_i64_40]; omega)
    | ((with_reducible refine Arith.u8 ?_ ?_); simp (discharger := omega) only [Int.tdiv_eq_ediv_of_nonneg, shr_u8_4, shl_u8_4, shr_u16_4, shl_u16_4, shr_u16_8, shl_u16_8, shr_u32_4, shl_u32_4, shr_u32_8, shl_u32_8, shr_u32_16, shl_u32_16, shr_u32_24, shl_u32_24, shr_u64_4, shl_u64_4, shr_u64_8, shl_u64_8, shr_u64_16, shl_u64_16, shr_u64_24, shl_u64_24, shr_u64_40, shl_u64_40, shr_i64_4, shl_i64_4, shr_i64_8, shl_i64_8, shr_i64_16, shl_i64_16, shr_i64_24, shl_i64_24, shr_i64_40, shl_i64_40]; omega)
    | (with_reducible refine Arith.mk ?_)
    | (with_reducible refine Ends.mk ?_))
  all_goals refine ⟨?_, rfl⟩
  all_goals first
    | (refine dec14_no s ?_ (by decide); unfold dec14e; (repeat (first | rw [if_pos (by omega)] | rw [if_neg (by omega)])); done)
    | (refine dec14_yes s ?_; unfold dec14e; (repeat (first | rw [if_pos (by omega)] | rw [if_neg (by omega)])); done)
def echo14 (ty co w : Int) (d : ByteArray) : List SV := if ty = 8 ∧ co = 0 then msg 0 0 w d else msg 0 0 0 ⟨#[]⟩
def echoB (ty co : Int) : Bool := decide (ty = 8 ∧ co = 0)
theorem echo_no (ty co w : Int) (d : ByteArray) (h : ¬ (ty = 8 ∧ co = 0)) : V.t [.a (msg 0 0 0 ⟨#[]⟩), .o (.bool false)] = .t [.a (echo14 ty co w d), .o (.bool (echoB ty co))] := by unfold echo14 echoB; rw [if_neg h, decide_eq_false h]
theorem echo_yes (ty co w : Int) (d : ByteArray) (h : ty = 8 ∧ co = 0) : V.t [.a (msg 0 0 w d), .o (.bool true)] = .t [.a (echo14 ty co w d), .o (.bool (echoB ty co))] := by unfold echo14 echoB; rw [if_pos h, decide_eq_true h]
/-- The kind of an address. -/
def kindA (ip : Int) : Int := if ip = 0 then 1 else if ip = 4294967295 then 5 else if ip / 16777216 = 127 then 2 else if ip / 16777216 ≥ 240 then 4 else if ip / 16777216 ≥ 224 then 3 else 0
set_option maxHeartbeats 1000000 in
theorem echo_det (ty co w : Int) (d : ByteArray) : Det Try.prog 19 [.a (msg ty co w d)] [] (.t [.a (echo14 ty co w d), .o (.bool (echoB ty co))]) [] := by
  refine can_of_W known mix Try.func19 (by kernel_rfl) ok_icmp_Echo (Nat.le_of_ble_eq_true rfl) ?_
  repeat' ((conv => whnf); first
    | ((with_reducible refine Look.mk ?_); refine ⟨_, rfl, ?_⟩)
    | ((with_reducible refine LookN.zeros ?_))
    | ((with_reducible refine LookN.bytes ?_ ?_); (simp; done))
    | ((with_reducible refine BytesW.bytes ?_))
    | ((with_reducible refine Look.byte ?_ ?_); omega)
    | ((with_reducible refine Look.setb ?_ ?_ ?_); exact bv8_bd _; omega)
    | ((with_reducible refine LookN.setb ?_ ?_ ?_); exact bv8_bd _; omega)
    | ((with_reducible refine LookN.mk ?_); refine ⟨_, rfl, ?_⟩)
    | ((with_reducible refine Need.mk ?_ ?_); first | ((with_reducible refine needB ?_); kernel_rfl) | exact rfl | trivial | omega | exact Nat.le_of_ble_eq_true rfl | (exact ⟨rfl, by omega⟩) | (intro h; first | rfl | cases h) | (simp only [lenS_text, lenS_setN, lenS_zeros]; omega) | (simp only [ByteArray.size_append, size_lit, List.size_toArray, List.length_cons, List.length_nil, Sp.ofB_size]; omega))
    | ((with_reducible refine BytesW.mk ?_); refine ⟨_, rfl, ?_⟩)
    | ((with_reducible refine Test.tmodEqT ?_ ?_ ?_); omega; focus omega)
    | ((with_reducible refine Test.tmodEqF ?_ ?_ ?_); omega; focus omega)
    | ((with_reducible refine Test.tmodNeT ?_ ?_ ?_); omega; focus omega)
    | ((with_reducible refine Test.tmodNeF ?_ ?_ ?_); omega; focus omega)
    | ((with_reducible refine Test.tmodEq ?_ (fun h => ?_) (fun h => ?_)); omega)
    | ((with_reducible refine Test.tmodNe ?_ (fun h => ?_) (fun h => ?_)); omega)
    | (with_reducible refine Test.shru8_4 (fun h => ?_) (fun h => ?_))
    | (with_reducible refine Test.shreu8_4 (fun h => ?_) (fun h => ?_))
    | (with_reducible refine Test.shreu32_24 (fun h => ?_) (fun h => ?_))
    | (with_reducible refine Test.shrgeu32_24 (fun h => ?_) (fun h => ?_))
    | ((with_reducible refine Test.notT ?_ ?_); focus assumption)
    | ((with_reducible refine Test.notF ?_ ?_); focus assumption)
    | (with_reducible refine Test.notIe (fun h => ?_) (fun h => ?_))
    | (with_reducible refine Test.notD (fun h => ?_) (fun h => ?_))
    | ((with_reducible refine Test.empty (fun h => ?_) (fun h => ?_)))
    | (with_reducible refine Test.tt ?_)
    | (with_reducible refine Test.ff ?_)
    | ((with_reducible refine Test.dt ?_ ?_); omega)
    | ((with_reducible refine Test.df ?_ ?_); omega)
    | (with_reducible refine Test.d (fun h => ?_) (fun h => ?_))
    | ((with_reducible refine Test.ieT ?_ ?_); omega)
    | ((with_reducible refine Test.ieF ?_ ?_); omega)
    | ((with_reducible refine Test.neT ?_ ?_); omega)
    | ((with_reducible refine Test.neF ?_ ?_); omega)
    | (with_reducible refine Test.ie (fun h => ?_) (fun h => ?_))
    | (with_reducible refine Test.ne (fun h => ?_) (fun h => ?_))
    | ((with_reducible refine Test.b ?_ ?_); (focus first | assumption | (simp [negB]; done) | exact rfl))
    | ((with_reducible refine Test.nb ?_ ?_); (focus first | assumption | (simp [negB]; done) | exact rfl))
    | (with_reducible refine Test.notS (fun h => ?_) (fun h => ?_))
    | (with_reducible refine Test.mk (fun h => ?_) (fun h => ?_))
    | (with_reducible refine Arith.nsu32_24 ?_)
    | (with_reducible refine Arith.nsu32_16 ?_)
    | (with_reducible refine Arith.nsu32_8 ?_)
    | ((with_reducible refine Arith.andu8_15 ?_ ?_); omega)
    | ((with_reducible refine Arith.andu16_8191 ?_ ?_); omega)
    | ((with_reducible refine Arith.bitu16_16384 ?_ ?_); omega)
    | ((with_reducible refine Arith.bitu16_8192 ?_ ?_); omega)
    | ((with_reducible refine Arith.andu64_8191 ?_ ?_); omega)
    | ((with_reducible refine Arith.bitu64_16384 ?_ ?_); omega)
    | ((with_reducible refine Arith.bitu64_8192 ?_ ?_); omega)
    | ((with_reducible refine Arith.tdiv ?_ ?_); omega)
    | (with_reducible refine Arith.bv8 ?_)
    | (with_reducible refine Arith.bv16 ?_)
    | (with_reducible refine Arith.bv32 ?_)
    | (with_reducible refine Arith.bv64 ?_)
    | ((with_reducible refine Arith.i64 ?_ ?_); omega)
    | ((with_reducible refine Arith.u64 ?_ ?_); omega)
    | ((with_reducible refine Arith.u32 ?_ ?_); omega)
    | ((with_reducible refine Arith.u16 ?_ ?_); omega)
    | ((with_reducible refine Arith.u8 ?_ ?_); omega)
    | ((with_reducible refine Arith.i32 ?_ ?_); omega)
    | ((with_reducible refine Arith.i64 ?_ ?_); simp (discharger := omega) only [Int.tdiv_eq_ediv_of_nonneg, shr_u8_4, shl_u8_4, shr_u16_4, shl_u16_4, shr_u16_8, shl_u16_8, shr_u32_4, shl_u32_4, shr_u32_8, shl_u32_8, shr_u32_16, shl_u32_16, shr_u32_24, shl_u32_24, shr_u64_4, shl_u64_4, shr_u64_8, shl_u64_8, shr_u64_16, shl_u64_16, shr_u64_24, shl_u64_24, shr_u64_40, shl_u64_40, shr_i64_4, shl_i64_4, shr_i64_8, shl_i64_8, shr_i64_16, shl_i64_16, shr_i64_24, shl_i64_24, shr_i64_40, shl_i64_40]; omega)
    | ((with_reducible refine Arith.u64 ?_ ?_); simp (discharger := omega) only [Int.tdiv_eq_ediv_of_nonneg, shr_u8_4, shl_u8_4, shr_u16_4, shl_u16_4, shr_u16_8, shl_u16_8, shr_u32_4, shl_u32_4, shr_u32_8, shl_u32_8, shr_u32_16, shl_u32_16, shr_u32_24, shl_u32_24, shr_u64_4, shl_u64_4, shr_u64_8, shl_u64_8, shr_u64_16, shl_u64_16, shr_u64_24, shl_u64_24, shr_u64_40, shl_u64_40, shr_i64_4, shl_i64_4, shr_i64_8, shl_i64_8, shr_i64_16, shl_i64_16, shr_i64_24, shl_i64_24, shr_i64_40, shl_i64_40]; omega)
    | ((with_reducible refine Arith.u32 ?_ ?_); simp (discharger := omega) only [Int.tdiv_eq_ediv_of_nonneg, shr_u8_4, shl_u8_4, shr_u16_4, shl_u16_4, shr_u16_8, shl_u16_8, shr_u32_4, shl_u32_4, shr_u32_8, shl_u32_8, shr_u32_16, shl_u32_16, shr_u32_24, shl_u32_24, shr_u64_4, shl_u64_4, shr_u64_8, shl_u64_8, shr_u64_16, shl_u64_16, shr_u64_24, shl_u64_24, shr_u64_40, shl_u64_40, shr_i64_4, shl_i64_4, shr_i64_8, shl_i64_8, shr_i64_16, shl_i64_16, shr_i64_24, shl_i64_24, shr_i64_40, shl_i64_40]; omega)
    | ((with_reducible refine Arith.u16 ?_ ?_); simp (discharger := omega) only [Int.tdiv_eq_ediv_of_nonneg, shr_u8_4, shl_u8_4, shr_u16_4, shl_u16_4, shr_u16_8, shl_u16_8, shr_u32_4, shl_u32_4, shr_u32_8, shl_u32_8, shr_u32_16, shl_u32_16, shr_u32_24, shl_u32_24, shr_u64_4, shl_u64_4, shr_u64_8, shl_u64_8, shr_u64_16, shl_u64_16, shr_u64_24, shl_u64_24, shr_u64_40, shl_u64_40, shr_i64_4, shl_i64_4, shr_i64_8, shl_i64_8, shr_i64_16, shl_i64_16, shr_i64_24, shl_i64_24, shr_i64_40, shl_i64_40]; omega)
    | ((with_reducible refine Arith.u8 ?_ ?_); simp (discharger := omega) only [Int.tdiv_eq_ediv_of_nonneg, shr_u8_4, shl_u8_4, shr_u16_4, shl_u16_4, shr_u16_8, shl_u16_8, shr_u32_4, shl_u32_4, shr_u32_8, shl_u32_8, shr_u32_16, shl_u32_16, shr_u32_24, shl_u32_24, shr_u64_4, shl_u64_4, shr_u64_8, shl_u64_8, shr_u64_16, shl_u64_16, shr_u64_24, shl_u64_24, shr_u64_40, shl_u64_40, shr_i64_4, shl_i64_4, shr_i64_8, shl_i64_8, shr_i64_16, shl_i64_16, shr_i64_24, shl_i64_24, shr_i64_40, shl_i64_40]; omega)
    | (with_reducible refine Arith.mk ?_)
    | (with_reducible refine Ends.mk ?_))
  all_goals first | exact ⟨echo_no ty co w d (by omega), rfl⟩ | exact ⟨echo_yes ty co w d (by omega), rfl⟩
set_option maxHeartbeats 1000000 in
theorem recho_det (ty co w : Int) (d : ByteArray) : Det Try.prog 20 [.a (msg ty co w d)] [] (.t [.a (echo14 ty co w d), .o (.bool (echoB ty co))]) [] := by
  refine can_of_W known mix Try.func20 (by kernel_rfl) ok_ref14_Echo (Nat.le_of_ble_eq_true rfl) ?_
  repeat' ((conv => whnf); first
    | ((with_reducible refine Look.mk ?_); refine ⟨_, rfl, ?_⟩)
    | ((with_reducible refine LookN.zeros ?_))
    | ((with_reducible refine LookN.bytes ?_ ?_); (simp; done))
    | ((with_reducible refine BytesW.bytes ?_))
    | ((with_reducible refine Look.byte ?_ ?_); omega)
    | ((with_reducible refine Look.setb ?_ ?_ ?_); exact bv8_bd _; omega)
    | ((with_reducible refine LookN.setb ?_ ?_ ?_); exact bv8_bd _; omega)
    | ((with_reducible refine LookN.mk ?_); refine ⟨_, rfl, ?_⟩)
    | ((with_reducible refine Need.mk ?_ ?_); first | ((with_reducible refine needB ?_); kernel_rfl) | exact rfl | trivial | omega | exact Nat.le_of_ble_eq_true rfl | (exact ⟨rfl, by omega⟩) | (intro h; first | rfl | cases h) | (simp only [lenS_text, lenS_setN, lenS_zeros]; omega) | (simp only [ByteArray.size_append, size_lit, List.size_toArray, List.length_cons, List.length_nil, Sp.ofB_size]; omega))
    | ((with_reducible refine BytesW.mk ?_); refine ⟨_, rfl, ?_⟩)
    | ((with_reducible refine Test.tmodEqT ?_ ?_ ?_); omega; focus omega)
    | ((with_reducible refine Test.tmodEqF ?_ ?_ ?_); omega; focus omega)
    | ((with_reducible refine Test.tmodNeT ?_ ?_ ?_); omega; focus omega)
    | ((with_reducible refine Test.tmodNeF ?_ ?_ ?_); omega; focus omega)
    | ((with_reducible refine Test.tmodEq ?_ (fun h => ?_) (fun h => ?_)); omega)
    | ((with_reducible refine Test.tmodNe ?_ (fun h => ?_) (fun h => ?_)); omega)
    | (with_reducible refine Test.shru8_4 (fun h => ?_) (fun h => ?_))
    | (with_reducible refine Test.shreu8_4 (fun h => ?_) (fun h => ?_))
    | (with_reducible refine Test.shreu32_24 (fun h => ?_) (fun h => ?_))
    | (with_reducible refine Test.shrgeu32_24 (fun h => ?_) (fun h => ?_))
    | ((with_reducible refine Test.notT ?_ ?_); focus assumption)
    | ((with_reducible refine Test.notF ?_ ?_); focus assumption)
    | (with_reducible refine Test.notIe (fun h => ?_) (fun h => ?_))
    | (with_reducible refine Test.notD (fun h => ?_) (fun h => ?_))
    | ((with_reducible refine Test.empty (fun h => ?_) (fun h => ?_)))
    | (with_reducible refine Test.tt ?_)
    | (with_reducible refine Test.ff ?_)
    | ((with_reducible refine Test.dt ?_ ?_); omega)
    | ((with_reducible refine Test.df ?_ ?_); omega)
    | (with_reducible refine Test.d (fun h => ?_) (fun h => ?_))
    | ((with_reducible refine Test.ieT ?_ ?_); omega)
    | ((with_reducible refine Test.ieF ?_ ?_); omega)
    | ((with_reducible refine Test.neT ?_ ?_); omega)
    | ((with_reducible refine Test.neF ?_ ?_); omega)
    | (with_reducible refine Test.ie (fun h => ?_) (fun h => ?_))
    | (with_reducible refine Test.ne (fun h => ?_) (fun h => ?_))
    | ((with_reducible refine Test.b ?_ ?_); (focus first | assumption | (simp [negB]; done) | exact rfl))
    | ((with_reducible refine Test.nb ?_ ?_); (focus first | assumption | (simp [negB]; done) | exact rfl))
    | (with_reducible refine Test.notS (fun h => ?_) (fun h => ?_))
    | (with_reducible refine Test.mk (fun h => ?_) (fun h => ?_))
    | (with_reducible refine Arith.nsu32_24 ?_)
    | (with_reducible refine Arith.nsu32_16 ?_)
    | (with_reducible refine Arith.nsu32_8 ?_)
    | ((with_reducible refine Arith.andu8_15 ?_ ?_); omega)
    | ((with_reducible refine Arith.andu16_8191 ?_ ?_); omega)
    | ((with_reducible refine Arith.bitu16_16384 ?_ ?_); omega)
    | ((with_reducible refine Arith.bitu16_8192 ?_ ?_); omega)
    | ((with_reducible refine Arith.andu64_8191 ?_ ?_); omega)
    | ((with_reducible refine Arith.bitu64_16384 ?_ ?_); omega)
    | ((with_reducible refine Arith.bitu64_8192 ?_ ?_); omega)
    | ((with_reducible refine Arith.tdiv ?_ ?_); omega)
    | (with_reducible refine Arith.bv8 ?_)
    | (with_reducible refine Arith.bv16 ?_)
    | (with_reducible refine Arith.bv32 ?_)
    | (with_reducible refine Arith.bv64 ?_)
    | ((with_reducible refine Arith.i64 ?_ ?_); omega)
    | ((with_reducible refine Arith.u64 ?_ ?_); omega)
    | ((with_reducible refine Arith.u32 ?_ ?_); omega)
    | ((with_reducible refine Arith.u16 ?_ ?_); omega)
    | ((with_reducible refine Arith.u8 ?_ ?_); omega)
    | ((with_reducible refine Arith.i32 ?_ ?_); omega)
    | ((with_reducible refine Arith.i64 ?_ ?_); simp (discharger := omega) only [Int.tdiv_eq_ediv_of_nonneg, shr_u8_4, shl_u8_4, shr_u16_4, shl_u16_4, shr_u16_8, shl_u16_8, shr_u32_4, shl_u32_4, shr_u32_8, shl_u32_8, shr_u32_16, shl_u32_16, shr_u32_24, shl_u32_24, shr_u64_4, shl_u64_4, shr_u64_8, shl_u64_8, shr_u64_16, shl_u64_16, shr_u64_24, shl_u64_24, shr_u64_40, shl_u64_40, shr_i64_4, shl_i64_4, shr_i64_8, shl_i64_8, shr_i64_16, shl_i64_16, shr_i64_24, shl_i64_24, shr_i64_40, shl_i64_40]; omega)
    | ((with_reducible refine Arith.u64 ?_ ?_); simp (discharger := omega) only [Int.tdiv_eq_ediv_of_nonneg, shr_u8_4, shl_u8_4, shr_u16_4, shl_u16_4, shr_u16_8, shl_u16_8, shr_u32_4, shl_u32_4, shr_u32_8, shl_u32_8, shr_u32_16, shl_u32_16, shr_u32_24, shl_u32_24, shr_u64_4, shl_u64_4, shr_u64_8, shl_u64_8, shr_u64_16, shl_u64_16, shr_u64_24, shl_u64_24, shr_u64_40, shl_u64_40, shr_i64_4, shl_i64_4, shr_i64_8, shl_i64_8, shr_i64_16, shl_i64_16, shr_i64_24, shl_i64_24, shr_i64_40, shl_i64_40]; omega)
    | ((with_reducible refine Arith.u32 ?_ ?_); simp (discharger := omega) only [Int.tdiv_eq_ediv_of_nonneg, shr_u8_4, shl_u8_4, shr_u16_4, shl_u16_4, shr_u16_8, shl_u16_8, shr_u32_4, shl_u32_4, shr_u32_8, shl_u32_8, shr_u32_16, shl_u32_16, shr_u32_24, shl_u32_24, shr_u64_4, shl_u64_4, shr_u64_8, shl_u64_8, shr_u64_16, shl_u64_16, shr_u64_24, shl_u64_24, shr_u64_40, shl_u64_40, shr_i64_4, shl_i64_4, shr_i64_8, shl_i64_8, shr_i64_16, shl_i64_16, shr_i64_24, shl_i64_24, shr_i64_40, shl_i64_40]; omega)
    | ((with_reducible refine Arith.u16 ?_ ?_); simp (discharger := omega) only [Int.tdiv_eq_ediv_of_nonneg, shr_u8_4, shl_u8_4, shr_u16_4, shl_u16_4, shr_u16_8, shl_u16_8, shr_u32_4, shl_u32_4, shr_u32_8, shl_u32_8, shr_u32_16, shl_u32_16, shr_u32_24, shl_u32_24, shr_u64_4, shl_u64_4, shr_u64_8, shl_u64_8, shr_u64_16, shl_u64_16, shr_u64_24, shl_u64_24, shr_u64_40, shl_u64_40, shr_i64_4, shl_i64_4, shr_i64_8, shl_i64_8, shr_i64_16, shl_i64_16, shr_i64_24, shl_i64_24, shr_i64_40, shl_i64_40]; omega)
    | ((with_reducible refine Arith.u8 ?_ ?_); simp (discharger := omega) only [Int.tdiv_eq_ediv_of_nonneg, shr_u8_4, shl_u8_4, shr_u16_4, shl_u16_4, shr_u16_8, shl_u16_8, shr_u32_4, shl_u32_4, shr_u32_8, shl_u32_8, shr_u32_16, shl_u32_16, shr_u32_24, shl_u32_24, shr_u64_4, shl_u64_4, shr_u64_8, shl_u64_8, shr_u64_16, shl_u64_16, shr_u64_24, shl_u64_24, shr_u64_40, shl_u64_40, shr_i64_4, shl_i64_4, shr_i64_8, shl_i64_8, shr_i64_16, shl_i64_16, shr_i64_24, shl_i64_24, shr_i64_40, shl_i64_40]; omega)
    | (with_reducible refine Arith.mk ?_)
    | (with_reducible refine Ends.mk ?_))
  all_goals first | exact ⟨echo_no ty co w d (by omega), rfl⟩ | exact ⟨echo_yes ty co w d (by omega), rfl⟩
set_option maxHeartbeats 4000000 in
theorem kind_det (ip : Int) (h : 0 ≤ ip ∧ ip ≤ 4294967295) : Det Try.prog 55 [.o (.int .u32 ip)] [] (vI .u8 (kindA ip)) [] := by
  refine can_of_W known mix Try.func55 (by kernel_rfl) ok_addr_Kind (Nat.le_of_ble_eq_true rfl) ?_
  repeat' ((conv => whnf); first
    | ((with_reducible refine Look.mk ?_); refine ⟨_, rfl, ?_⟩)
    | ((with_reducible refine LookN.zeros ?_))
    | ((with_reducible refine LookN.bytes ?_ ?_); (simp; done))
    | ((with_reducible refine BytesW.bytes ?_))
    | ((with_reducible refine Look.byte ?_ ?_); omega)
    | ((with_reducible refine Look.setb ?_ ?_ ?_); exact bv8_bd _; omega)
    | ((with_reducible refine LookN.setb ?_ ?_ ?_); exact bv8_bd _; omega)
    | ((with_reducible refine LookN.mk ?_); refine ⟨_, rfl, ?_⟩)
    | ((with_reducible refine Need.mk ?_ ?_); first | ((with_reducible refine needB ?_); kernel_rfl) | exact rfl | trivial | omega | exact Nat.le_of_ble_eq_true rfl | (exact ⟨rfl, by omega⟩) | (intro h; first | rfl | cases h) | (simp only [lenS_text, lenS_setN, lenS_zeros]; omega) | (simp only [ByteArray.size_append, size_lit, List.size_toArray, List.length_cons, List.length_nil, Sp.ofB_size]; omega))
    | ((with_reducible refine BytesW.mk ?_); refine ⟨_, rfl, ?_⟩)
    | (with_reducible refine LoopW.unroll (fun X hX => ?_))
    | (refine hX _ _ ?_)
    | (with_reducible refine CallW.can (can_of_W known mix Try.func82 (by kernel_rfl) ok_addr_parts (Nat.le_of_ble_eq_true rfl) ?_) (fun _ _ h => h))
    | (with_reducible refine CallW.can (can_of_W known mix Try.func83 (by kernel_rfl) ok_addr_Kind_1 (Nat.le_of_ble_eq_true rfl) ?_) (fun _ _ h => h))
    | (with_reducible refine CallW.can (can_of_W known mix Try.func84 (by kernel_rfl) ok_addr_Kind_2 (Nat.le_of_ble_eq_true rfl) ?_) (fun _ _ h => h))
    | (with_reducible refine CallW.can (can_of_W known mix Try.func85 (by kernel_rfl) ok_addr_Kind_3 (Nat.le_of_ble_eq_true rfl) ?_) (fun _ _ h => h))
    | (with_reducible refine CallW.can (can_of_W known mix Try.func86 (by kernel_rfl) ok_addr_Kind_4 (Nat.le_of_ble_eq_true rfl) ?_) (fun _ _ h => h))
    | (with_reducible refine CallW.can (can_of_W known mix Try.func87 (by kernel_rfl) ok_addr_Kind_5 (Nat.le_of_ble_eq_true rfl) ?_) (fun _ _ h => h))
    | ((with_reducible refine Test.tmodEqT ?_ ?_ ?_); omega; focus omega)
    | ((with_reducible refine Test.tmodEqF ?_ ?_ ?_); omega; focus omega)
    | ((with_reducible refine Test.tmodNeT ?_ ?_ ?_); omega; focus omega)
    | ((with_reducible refine Test.tmodNeF ?_ ?_ ?_); omega; focus omega)
    | ((with_reducible refine Test.tmodEq ?_ (fun h => ?_) (fun h => ?_)); omega)
    | ((with_reducible refine Test.tmodNe ?_ (fun h => ?_) (fun h => ?_)); omega)
    | (with_reducible refine Test.shru8_4 (fun h => ?_) (fun h => ?_))
    | (with_reducible refine Test.shreu8_4 (fun h => ?_) (fun h => ?_))
    | (with_reducible refine Test.shreu32_24 (fun h => ?_) (fun h => ?_))
    | (with_reducible refine Test.shrgeu32_24 (fun h => ?_) (fun h => ?_))
    | ((with_reducible refine Test.notT ?_ ?_); focus assumption)
    | ((with_reducible refine Test.notF ?_ ?_); focus assumption)
    | (with_reducible refine Test.notIe (fun h => ?_) (fun h => ?_))
    | (with_reducible refine Test.notD (fun h => ?_) (fun h => ?_))
    | ((with_reducible refine Test.empty (fun h => ?_) (fun h => ?_)))
    | (with_reducible refine Test.tt ?_)
    | (with_reducible refine Test.ff ?_)
    | ((with_reducible refine Test.dt ?_ ?_); omega)
    | ((with_reducible refine Test.df ?_ ?_); omega)
    | (with_reducible refine Test.d (fun h => ?_) (fun h => ?_))
    | ((with_reducible refine Test.ieT ?_ ?_); omega)
    | ((with_reducible refine Test.ieF ?_ ?_); omega)
    | ((with_reducible refine Test.neT ?_ ?_); omega)
    | ((with_reducible refine Test.neF ?_ ?_); omega)
    | (with_reducible refine Test.ie (fun h => ?_) (fun h => ?_))
    | (with_reducible refine Test.ne (fun h => ?_) (fun h => ?_))
    | ((with_reducible refine Test.b ?_ ?_); (focus first | assumption | (simp [negB]; done) | exact rfl))
    | ((with_reducible refine Test.nb ?_ ?_); (focus first | assumption | (simp [negB]; done) | exact rfl))
    | (with_reducible refine Test.notS (fun h => ?_) (fun h => ?_))
    | (with_reducible refine Test.mk (fun h => ?_) (fun h => ?_))
    | (with_reducible refine Arith.nsu32_24 ?_)
    | (with_reducible refine Arith.nsu32_16 ?_)
    | (with_reducible refine Arith.nsu32_8 ?_)
    | ((with_reducible refine Arith.andu8_15 ?_ ?_); omega)
    | ((with_reducible refine Arith.andu16_8191 ?_ ?_); omega)
    | ((with_reducible refine Arith.bitu16_16384 ?_ ?_); omega)
    | ((with_reducible refine Arith.bitu16_8192 ?_ ?_); omega)
    | ((with_reducible refine Arith.andu64_8191 ?_ ?_); omega)
    | ((with_reducible refine Arith.bitu64_16384 ?_ ?_); omega)
    | ((with_reducible refine Arith.bitu64_8192 ?_ ?_); omega)
    | ((with_reducible refine Arith.tdiv ?_ ?_); omega)
    | (with_reducible refine Arith.bv8 ?_)
    | (with_reducible refine Arith.bv16 ?_)
    | (with_reducible refine Arith.bv32 ?_)
    | (with_reducible refine Arith.bv64 ?_)
    | ((with_reducible refine Arith.i64 ?_ ?_); omega)
    | ((with_reducible refine Arith.u64 ?_ ?_); omega)
    | ((with_reducible refine Arith.u32 ?_ ?_); omega)
    | ((with_reducible refine Arith.u16 ?_ ?_); omega)
    | ((with_reducible refine Arith.u8 ?_ ?_); omega)
    | ((with_reducible refine Arith.i32 ?_ ?_); omega)
    | ((with_reducible refine Arith.i64 ?_ ?_); simp (discharger := omega) only [Int.tdiv_eq_ediv_of_nonneg, shr_u8_4, shl_u8_4, shr_u16_4, shl_u16_4, shr_u16_8, shl_u16_8, shr_u32_4, shl_u32_4, shr_u32_8, shl_u32_8, shr_u32_16, shl_u32_16, shr_u32_24, shl_u32_24, shr_u64_4, shl_u64_4, shr_u64_8, shl_u64_8, shr_u64_16, shl_u64_16, shr_u64_24, shl_u64_24, shr_u64_40, shl_u64_40, shr_i64_4, shl_i64_4, shr_i64_8, shl_i64_8, shr_i64_16, shl_i64_16, shr_i64_24, shl_i64_24, shr_i64_40, shl_i64_40]; omega)
    | ((with_reducible refine Arith.u64 ?_ ?_); simp (discharger := omega) only [Int.tdiv_eq_ediv_of_nonneg, shr_u8_4, shl_u8_4, shr_u16_4, shl_u16_4, shr_u16_8, shl_u16_8, shr_u32_4, shl_u32_4, shr_u32_8, shl_u32_8, shr_u32_16, shl_u32_16, shr_u32_24, shl_u32_24, shr_u64_4, shl_u64_4, shr_u64_8, shl_u64_8, shr_u64_16, shl_u64_16, shr_u64_24, shl_u64_24, shr_u64_40, shl_u64_40, shr_i64_4, shl_i64_4, shr_i64_8, shl_i64_8, shr_i64_16, shl_i64_16, shr_i64_24, shl_i64_24, shr_i64_40, shl_i64_40]; omega)
    | ((with_reducible refine Arith.u32 ?_ ?_); simp (discharger := omega) only [Int.tdiv_eq_ediv_of_nonneg, shr_u8_4, shl_u8_4, shr_u16_4, shl_u16_4, shr_u16_8, shl_u16_8, shr_u32_4, shl_u32_4, shr_u32_8, shl_u32_8, shr_u32_16, shl_u32_16, shr_u32_24, shl_u32_24, shr_u64_4, shl_u64_4, shr_u64_8, shl_u64_8, shr_u64_16, shl_u64_16, shr_u64_24, shl_u64_24, shr_u64_40, shl_u64_40, shr_i64_4, shl_i64_4, shr_i64_8, shl_i64_8, shr_i64_16, shl_i64_16, shr_i64_24, shl_i64_24, shr_i64_40, shl_i64_40]; omega)
    | ((with_reducible refine Arith.u16 ?_ ?_); simp (discharger := omega) only [Int.tdiv_eq_ediv_of_nonneg, shr_u8_4, shl_u8_4, shr_u16_4, shl_u16_4, shr_u16_8, shl_u16_8, shr_u32_4, shl_u32_4, shr_u32_8, shl_u32_8, shr_u32_16, shl_u32_16, shr_u32_24, shl_u32_24, shr_u64_4, shl_u64_4, shr_u64_8, shl_u64_8, shr_u64_16, shl_u64_16, shr_u64_24, shl_u64_24, shr_u64_40, shl_u64_40, shr_i64_4, shl_i64_4, shr_i64_8, shl_i64_8, shr_i64_16, shl_i64_16, shr_i64_24, shl_i64_24, shr_i64_40, shl_i64_40]; omega)
    | ((with_reducible refine Arith.u8 ?_ ?_); simp (discharger := omega) only [Int.tdiv_eq_ediv_of_nonneg, shr_u8_4, shl_u8_4, shr_u16_4, shl_u16_4, shr_u16_8, shl_u16_8, shr_u32_4, shl_u32_4, shr_u32_8, shl_u32_8, shr_u32_16, shl_u32_16, shr_u32_24, shl_u32_24, shr_u64_4, shl_u64_4, shr_u64_8, shl_u64_8, shr_u64_16, shl_u64_16, shr_u64_24, shl_u64_24, shr_u64_40, shl_u64_40, shr_i64_4, shl_i64_4, shr_i64_8, shl_i64_8, shr_i64_16, shl_i64_16, shr_i64_24, shl_i64_24, shr_i64_40, shl_i64_40]; omega)
    | (with_reducible refine Arith.mk ?_)
    | (with_reducible refine Ends.mk ?_))
  all_goals (refine ⟨?_, rfl⟩; unfold kindA; (repeat (first | rw [if_pos (by omega)] | rw [if_neg (by omega)])); done)
set_option maxHeartbeats 1000000 in
theorem rkind_det (ip : Int) (h : 0 ≤ ip ∧ ip ≤ 4294967295) : Det Try.prog 58 [.o (.int .u32 ip)] [] (vI .u8 (kindA ip)) [] := by
  refine can_of_W known mix Try.func58 (by kernel_rfl) ok_ref06_Kind (Nat.le_of_ble_eq_true rfl) ?_
  repeat' ((conv => whnf); first
    | ((with_reducible refine Look.mk ?_); refine ⟨_, rfl, ?_⟩)
    | ((with_reducible refine LookN.zeros ?_))
    | ((with_reducible refine LookN.bytes ?_ ?_); (simp; done))
    | ((with_reducible refine BytesW.bytes ?_))
    | ((with_reducible refine Look.byte ?_ ?_); omega)
    | ((with_reducible refine Look.setb ?_ ?_ ?_); exact bv8_bd _; omega)
    | ((with_reducible refine LookN.setb ?_ ?_ ?_); exact bv8_bd _; omega)
    | ((with_reducible refine LookN.mk ?_); refine ⟨_, rfl, ?_⟩)
    | ((with_reducible refine Need.mk ?_ ?_); first | ((with_reducible refine needB ?_); kernel_rfl) | exact rfl | trivial | omega | exact Nat.le_of_ble_eq_true rfl | (exact ⟨rfl, by omega⟩) | (intro h; first | rfl | cases h) | (simp only [lenS_text, lenS_setN, lenS_zeros]; omega) | (simp only [ByteArray.size_append, size_lit, List.size_toArray, List.length_cons, List.length_nil, Sp.ofB_size]; omega))
    | ((with_reducible refine BytesW.mk ?_); refine ⟨_, rfl, ?_⟩)
    | ((with_reducible refine Test.tmodEqT ?_ ?_ ?_); omega; focus omega)
    | ((with_reducible refine Test.tmodEqF ?_ ?_ ?_); omega; focus omega)
    | ((with_reducible refine Test.tmodNeT ?_ ?_ ?_); omega; focus omega)
    | ((with_reducible refine Test.tmodNeF ?_ ?_ ?_); omega; focus omega)
    | ((with_reducible refine Test.tmodEq ?_ (fun h => ?_) (fun h => ?_)); omega)
    | ((with_reducible refine Test.tmodNe ?_ (fun h => ?_) (fun h => ?_)); omega)
    | (with_reducible refine Test.shru8_4 (fun h => ?_) (fun h => ?_))
    | (with_reducible refine Test.shreu8_4 (fun h => ?_) (fun h => ?_))
    | (with_reducible refine Test.shreu32_24 (fun h => ?_) (fun h => ?_))
    | (with_reducible refine Test.shrgeu32_24 (fun h => ?_) (fun h => ?_))
    | ((with_reducible refine Test.notT ?_ ?_); focus assumption)
    | ((with_reducible refine Test.notF ?_ ?_); focus assumption)
    | (with_reducible refine Test.notIe (fun h => ?_) (fun h => ?_))
    | (with_reducible refine Test.notD (fun h => ?_) (fun h => ?_))
    | ((with_reducible refine Test.empty (fun h => ?_) (fun h => ?_)))
    | (with_reducible refine Test.tt ?_)
    | (with_reducible refine Test.ff ?_)
    | ((with_reducible refine Test.dt ?_ ?_); omega)
    | ((with_reducible refine Test.df ?_ ?_); omega)
    | (with_reducible refine Test.d (fun h => ?_) (fun h => ?_))
    | ((with_reducible refine Test.ieT ?_ ?_); omega)
    | ((with_reducible refine Test.ieF ?_ ?_); omega)
    | ((with_reducible refine Test.neT ?_ ?_); omega)
    | ((with_reducible refine Test.neF ?_ ?_); omega)
    | (with_reducible refine Test.ie (fun h => ?_) (fun h => ?_))
    | (with_reducible refine Test.ne (fun h => ?_) (fun h => ?_))
    | ((with_reducible refine Test.b ?_ ?_); (focus first | assumption | (simp [negB]; done) | exact rfl))
    | ((with_reducible refine Test.nb ?_ ?_); (focus first | assumption | (simp [negB]; done) | exact rfl))
    | (with_reducible refine Test.notS (fun h => ?_) (fun h => ?_))
    | (with_reducible refine Test.mk (fun h => ?_) (fun h => ?_))
    | (with_reducible refine Arith.nsu32_24 ?_)
    | (with_reducible refine Arith.nsu32_16 ?_)
    | (with_reducible refine Arith.nsu32_8 ?_)
    | ((with_reducible refine Arith.andu8_15 ?_ ?_); omega)
    | ((with_reducible refine Arith.andu16_8191 ?_ ?_); omega)
    | ((with_reducible refine Arith.bitu16_16384 ?_ ?_); omega)
    | ((with_reducible refine Arith.bitu16_8192 ?_ ?_); omega)
    | ((with_reducible refine Arith.andu64_8191 ?_ ?_); omega)
    | ((with_reducible refine Arith.bitu64_16384 ?_ ?_); omega)
    | ((with_reducible refine Arith.bitu64_8192 ?_ ?_); omega)
    | ((with_reducible refine Arith.tdiv ?_ ?_); omega)
    | (with_reducible refine Arith.bv8 ?_)
    | (with_reducible refine Arith.bv16 ?_)
    | (with_reducible refine Arith.bv32 ?_)
    | (with_reducible refine Arith.bv64 ?_)
    | ((with_reducible refine Arith.i64 ?_ ?_); omega)
    | ((with_reducible refine Arith.u64 ?_ ?_); omega)
    | ((with_reducible refine Arith.u32 ?_ ?_); omega)
    | ((with_reducible refine Arith.u16 ?_ ?_); omega)
    | ((with_reducible refine Arith.u8 ?_ ?_); omega)
    | ((with_reducible refine Arith.i32 ?_ ?_); omega)
    | ((with_reducible refine Arith.i64 ?_ ?_); simp (discharger := omega) only [Int.tdiv_eq_ediv_of_nonneg, shr_u8_4, shl_u8_4, shr_u16_4, shl_u16_4, shr_u16_8, shl_u16_8, shr_u32_4, shl_u32_4, shr_u32_8, shl_u32_8, shr_u32_16, shl_u32_16, shr_u32_24, shl_u32_24, shr_u64_4, shl_u64_4, shr_u64_8, shl_u64_8, shr_u64_16, shl_u64_16, shr_u64_24, shl_u64_24, shr_u64_40, shl_u64_40, shr_i64_4, shl_i64_4, shr_i64_8, shl_i64_8, shr_i64_16, shl_i64_16, shr_i64_24, shl_i64_24, shr_i64_40, shl_i64_40]; omega)
    | ((with_reducible refine Arith.u64 ?_ ?_); simp (discharger := omega) only [Int.tdiv_eq_ediv_of_nonneg, shr_u8_4, shl_u8_4, shr_u16_4, shl_u16_4, shr_u16_8, shl_u16_8, shr_u32_4, shl_u32_4, shr_u32_8, shl_u32_8, shr_u32_16, shl_u32_16, shr_u32_24, shl_u32_24, shr_u64_4, shl_u64_4, shr_u64_8, shl_u64_8, shr_u64_16, shl_u64_16, shr_u64_24, shl_u64_24, shr_u64_40, shl_u64_40, shr_i64_4, shl_i64_4, shr_i64_8, shl_i64_8, shr_i64_16, shl_i64_16, shr_i64_24, shl_i64_24, shr_i64_40, shl_i64_40]; omega)
    | ((with_reducible refine Arith.u32 ?_ ?_); simp (discharger := omega) only [Int.tdiv_eq_ediv_of_nonneg, shr_u8_4, shl_u8_4, shr_u16_4, shl_u16_4, shr_u16_8, shl_u16_8, shr_u32_4, shl_u32_4, shr_u32_8, shl_u32_8, shr_u32_16, shl_u32_16, shr_u32_24, shl_u32_24, shr_u64_4, shl_u64_4, shr_u64_8, shl_u64_8, shr_u64_16, shl_u64_16, shr_u64_24, shl_u64_24, shr_u64_40, shl_u64_40, shr_i64_4, shl_i64_4, shr_i64_8, shl_i64_8, shr_i64_16, shl_i64_16, shr_i64_24, shl_i64_24, shr_i64_40, shl_i64_40]; omega)
    | ((with_reducible refine Arith.u16 ?_ ?_); simp (discharger := omega) only [Int.tdiv_eq_ediv_of_nonneg, shr_u8_4, shl_u8_4, shr_u16_4, shl_u16_4, shr_u16_8, shl_u16_8, shr_u32_4, shl_u32_4, shr_u32_8, shl_u32_8, shr_u32_16, shl_u32_16, shr_u32_24, shl_u32_24, shr_u64_4, shl_u64_4, shr_u64_8, shl_u64_8, shr_u64_16, shl_u64_16, shr_u64_24, shl_u64_24, shr_u64_40, shl_u64_40, shr_i64_4, shl_i64_4, shr_i64_8, shl_i64_8, shr_i64_16, shl_i64_16, shr_i64_24, shl_i64_24, shr_i64_40, shl_i64_40]; omega)
    | ((with_reducible refine Arith.u8 ?_ ?_); simp (discharger := omega) only [Int.tdiv_eq_ediv_of_nonneg, shr_u8_4, shl_u8_4, shr_u16_4, shl_u16_4, shr_u16_8, shl_u16_8, shr_u32_4, shl_u32_4, shr_u32_8, shl_u32_8, shr_u32_16, shl_u32_16, shr_u32_24, shl_u32_24, shr_u64_4, shl_u64_4, shr_u64_8, shl_u64_8, shr_u64_16, shl_u64_16, shr_u64_24, shl_u64_24, shr_u64_40, shl_u64_40, shr_i64_4, shl_i64_4, shr_i64_8, shl_i64_8, shr_i64_16, shl_i64_16, shr_i64_24, shl_i64_24, shr_i64_40, shl_i64_40]; omega)
    | (with_reducible refine Arith.mk ?_)
    | (with_reducible refine Ends.mk ?_))
  all_goals (refine ⟨?_, rfl⟩; unfold kindA; (repeat (first | rw [if_pos (by omega)] | rw [if_neg (by omega)])); done)
set_option maxHeartbeats 4000000 in
theorem bad_det (k : Int) (h : 0 ≤ k ∧ k ≤ 255) : Det Try.prog 53 [.o (.int .u8 k)] [] (vB (decide (k = 3 ∨ k = 11 ∨ k = 12))) [] := by
  refine can_of_W known mix Try.func53 (by kernel_rfl) ok_icmp_bad (Nat.le_of_ble_eq_true rfl) ?_
  repeat' ((conv => whnf); first
    | ((with_reducible refine Look.mk ?_); refine ⟨_, rfl, ?_⟩)
    | ((with_reducible refine LookN.zeros ?_))
    | ((with_reducible refine LookN.bytes ?_ ?_); (simp; done))
    | ((with_reducible refine BytesW.bytes ?_))
    | ((with_reducible refine Look.byte ?_ ?_); omega)
    | ((with_reducible refine Look.setb ?_ ?_ ?_); exact bv8_bd _; omega)
    | ((with_reducible refine LookN.setb ?_ ?_ ?_); exact bv8_bd _; omega)
    | ((with_reducible refine LookN.mk ?_); refine ⟨_, rfl, ?_⟩)
    | ((with_reducible refine Need.mk ?_ ?_); first | ((with_reducible refine needB ?_); kernel_rfl) | exact rfl | trivial | omega | exact Nat.le_of_ble_eq_true rfl | (exact ⟨rfl, by omega⟩) | (intro h; first | rfl | cases h) | (simp only [lenS_text, lenS_setN, lenS_zeros]; omega) | (simp only [ByteArray.size_append, size_lit, List.size_toArray, List.length_cons, List.length_nil, Sp.ofB_size]; omega))
    | ((with_reducible refine BytesW.mk ?_); refine ⟨_, rfl, ?_⟩)
    | (with_reducible refine LoopW.unroll (fun X hX => ?_))
    | (refine hX _ _ ?_)
    | (with_reducible refine CallW.can (can_of_W known mix Try.func81 (by kernel_rfl) ok_slices_Contains___uint8_uint8_ (Nat.le_of_ble_eq_true rfl) ?_) (fun _ _ h => h))
    | (with_reducible refine CallW.can (can_of_W known mix Try.func96 (by kernel_rfl) ok_slices_Index___uint8_uint8_ (Nat.le_of_ble_eq_true rfl) ?_) (fun _ _ h => h))
    | ((with_reducible refine Test.tmodEqT ?_ ?_ ?_); omega; focus omega)
    | ((with_reducible refine Test.tmodEqF ?_ ?_ ?_); omega; focus omega)
    | ((with_reducible refine Test.tmodNeT ?_ ?_ ?_); omega; focus omega)
    | ((with_reducible refine Test.tmodNeF ?_ ?_ ?_); omega; focus omega)
    | ((with_reducible refine Test.tmodEq ?_ (fun h => ?_) (fun h => ?_)); omega)
    | ((with_reducible refine Test.tmodNe ?_ (fun h => ?_) (fun h => ?_)); omega)
    | (with_reducible refine Test.shru8_4 (fun h => ?_) (fun h => ?_))
    | (with_reducible refine Test.shreu8_4 (fun h => ?_) (fun h => ?_))
    | (with_reducible refine Test.shreu32_24 (fun h => ?_) (fun h => ?_))
    | (with_reducible refine Test.shrgeu32_24 (fun h => ?_) (fun h => ?_))
    | ((with_reducible refine Test.notT ?_ ?_); focus assumption)
    | ((with_reducible refine Test.notF ?_ ?_); focus assumption)
    | (with_reducible refine Test.notIe (fun h => ?_) (fun h => ?_))
    | (with_reducible refine Test.notD (fun h => ?_) (fun h => ?_))
    | ((with_reducible refine Test.empty (fun h => ?_) (fun h => ?_)))
    | (with_reducible refine Test.tt ?_)
    | (with_reducible refine Test.ff ?_)
    | ((with_reducible refine Test.dt ?_ ?_); omega)
    | ((with_reducible refine Test.df ?_ ?_); omega)
    | (with_reducible refine Test.d (fun h => ?_) (fun h => ?_))
    | ((with_reducible refine Test.ieT ?_ ?_); omega)
    | ((with_reducible refine Test.ieF ?_ ?_); omega)
    | ((with_reducible refine Test.neT ?_ ?_); omega)
    | ((with_reducible refine Test.neF ?_ ?_); omega)
    | (with_reducible refine Test.ie (fun h => ?_) (fun h => ?_))
    | (with_reducible refine Test.ne (fun h => ?_) (fun h => ?_))
    | ((with_reducible refine Test.b ?_ ?_); (focus first | assumption | (simp [negB]; done) | exact rfl))
    | ((with_reducible refine Test.nb ?_ ?_); (focus first | assumption | (simp [negB]; done) | exact rfl))
    | (with_reducible refine Test.notS (fun h => ?_) (fun h => ?_))
    | (with_reducible refine Test.mk (fun h => ?_) (fun h => ?_))
    | (with_reducible refine Arith.nsu32_24 ?_)
    | (with_reducible refine Arith.nsu32_16 ?_)
    | (with_reducible refine Arith.nsu32_8 ?_)
    | ((with_reducible refine Arith.andu8_15 ?_ ?_); omega)
    | ((with_reducible refine Arith.andu16_8191 ?_ ?_); omega)
    | ((with_reducible refine Arith.bitu16_16384 ?_ ?_); omega)
    | ((with_reducible refine Arith.bitu16_8192 ?_ ?_); omega)
    | ((with_reducible refine Arith.andu64_8191 ?_ ?_); omega)
    | ((with_reducible refine Arith.bitu64_16384 ?_ ?_); omega)
    | ((with_reducible refine Arith.bitu64_8192 ?_ ?_); omega)
    | ((with_reducible refine Arith.tdiv ?_ ?_); omega)
    | (with_reducible refine Arith.bv8 ?_)
    | (with_reducible refine Arith.bv16 ?_)
    | (with_reducible refine Arith.bv32 ?_)
    | (with_reducible refine Arith.bv64 ?_)
    | ((with_reducible refine Arith.i64 ?_ ?_); omega)
    | ((with_reducible refine Arith.u64 ?_ ?_); omega)
    | ((with_reducible refine Arith.u32 ?_ ?_); omega)
    | ((with_reducible refine Arith.u16 ?_ ?_); omega)
    | ((with_reducible refine Arith.u8 ?_ ?_); omega)
    | ((with_reducible refine Arith.i32 ?_ ?_); omega)
    | ((with_reducible refine Arith.i64 ?_ ?_); simp (discharger := omega) only [Int.tdiv_eq_ediv_of_nonneg, shr_u8_4, shl_u8_4, shr_u16_4, shl_u16_4, shr_u16_8, shl_u16_8, shr_u32_4, shl_u32_4, shr_u32_8, shl_u32_8, shr_u32_16, shl_u32_16, shr_u32_24, shl_u32_24, shr_u64_4, shl_u64_4, shr_u64_8, shl_u64_8, shr_u64_16, shl_u64_16, shr_u64_24, shl_u64_24, shr_u64_40, shl_u64_40, shr_i64_4, shl_i64_4, shr_i64_8, shl_i64_8, shr_i64_16, shl_i64_16, shr_i64_24, shl_i64_24, shr_i64_40, shl_i64_40]; omega)
    | ((with_reducible refine Arith.u64 ?_ ?_); simp (discharger := omega) only [Int.tdiv_eq_ediv_of_nonneg, shr_u8_4, shl_u8_4, shr_u16_4, shl_u16_4, shr_u16_8, shl_u16_8, shr_u32_4, shl_u32_4, shr_u32_8, shl_u32_8, shr_u32_16, shl_u32_16, shr_u32_24, shl_u32_24, shr_u64_4, shl_u64_4, shr_u64_8, shl_u64_8, shr_u64_16, shl_u64_16, shr_u64_24, shl_u64_24, shr_u64_40, shl_u64_40, shr_i64_4, shl_i64_4, shr_i64_8, shl_i64_8, shr_i64_16, shl_i64_16, shr_i64_24, shl_i64_24, shr_i64_40, shl_i64_40]; omega)
    | ((with_reducible refine Arith.u32 ?_ ?_); simp (discharger := omega) only [Int.tdiv_eq_ediv_of_nonneg, shr_u8_4, shl_u8_4, shr_u16_4, shl_u16_4, shr_u16_8, shl_u16_8, shr_u32_4, shl_u32_4, shr_u32_8, shl_u32_8, shr_u32_16, shl_u32_16, shr_u32_24, shl_u32_24, shr_u64_4, shl_u64_4, shr_u64_8, shl_u64_8, shr_u64_16, shl_u64_16, shr_u64_24, shl_u64_24, shr_u64_40, shl_u64_40, shr_i64_4, shl_i64_4, shr_i64_8, shl_i64_8, shr_i64_16, shl_i64_16, shr_i64_24, shl_i64_24, shr_i64_40, shl_i64_40]; omega)
    | ((with_reducible refine Arith.u16 ?_ ?_); simp (discharger := omega) only [Int.tdiv_eq_ediv_of_nonneg, shr_u8_4, shl_u8_4, shr_u16_4, shl_u16_4, shr_u16_8, shl_u16_8, shr_u32_4, shl_u32_4, shr_u32_8, shl_u32_8, shr_u32_16, shl_u32_16, shr_u32_24, shl_u32_24, shr_u64_4, shl_u64_4, shr_u64_8, shl_u64_8, shr_u64_16, shl_u64_16, shr_u64_24, shl_u64_24, shr_u64_40, shl_u64_40, shr_i64_4, shl_i64_4, shr_i64_8, shl_i64_8, shr_i64_16, shl_i64_16, shr_i64_24, shl_i64_24, shr_i64_40, shl_i64_40]; omega)
    | ((with_reducible refine Arith.u8 ?_ ?_); simp (discharger := omega) only [Int.tdiv_eq_ediv_of_nonneg, shr_u8_4, shl_u8_4, shr_u16_4, shl_u16_4, shr_u16_8, shl_u16_8, shr_u32_4, shl_u32_4, shr_u32_8, shl_u32_8, shr_u32_16, shl_u32_16, shr_u32_24, shl_u32_24, shr_u64_4, shl_u64_4, shr_u64_8, shl_u64_8, shr_u64_16, shl_u64_16, shr_u64_24, shl_u64_24, shr_u64_40, shl_u64_40, shr_i64_4, shl_i64_4, shr_i64_8, shl_i64_8, shr_i64_16, shl_i64_16, shr_i64_24, shl_i64_24, shr_i64_40, shl_i64_40]; omega)
    | (with_reducible refine Arith.mk ?_)
    | (with_reducible refine Ends.mk ?_))
  all_goals first | exact ⟨vB_t (by omega), rfl⟩ | exact ⟨vB_f (by omega), rfl⟩ | exact ⟨vB_te (by omega), rfl⟩
set_option maxHeartbeats 1000000 in
theorem rbad_det (k : Int) (h : 0 ≤ k ∧ k ≤ 255) : Det Try.prog 59 [.o (.int .u8 k)] [] (vB (decide (k = 3 ∨ k = 11 ∨ k = 12))) [] := by
  refine can_of_W known mix Try.func59 (by kernel_rfl) ok_ref14_Bad (Nat.le_of_ble_eq_true rfl) ?_
  repeat' ((conv => whnf); first
    | ((with_reducible refine Look.mk ?_); refine ⟨_, rfl, ?_⟩)
    | ((with_reducible refine LookN.zeros ?_))
    | ((with_reducible refine LookN.bytes ?_ ?_); (simp; done))
    | ((with_reducible refine BytesW.bytes ?_))
    | ((with_reducible refine Look.byte ?_ ?_); omega)
    | ((with_reducible refine Look.setb ?_ ?_ ?_); exact bv8_bd _; omega)
    | ((with_reducible refine LookN.setb ?_ ?_ ?_); exact bv8_bd _; omega)
    | ((with_reducible refine LookN.mk ?_); refine ⟨_, rfl, ?_⟩)
    | ((with_reducible refine Need.mk ?_ ?_); first | ((with_reducible refine needB ?_); kernel_rfl) | exact rfl | trivial | omega | exact Nat.le_of_ble_eq_true rfl | (exact ⟨rfl, by omega⟩) | (intro h; first | rfl | cases h) | (simp only [lenS_text, lenS_setN, lenS_zeros]; omega) | (simp only [ByteArray.size_append, size_lit, List.size_toArray, List.length_cons, List.length_nil, Sp.ofB_size]; omega))
    | ((with_reducible refine BytesW.mk ?_); refine ⟨_, rfl, ?_⟩)
    | ((with_reducible refine Test.tmodEqT ?_ ?_ ?_); omega; focus omega)
    | ((with_reducible refine Test.tmodEqF ?_ ?_ ?_); omega; focus omega)
    | ((with_reducible refine Test.tmodNeT ?_ ?_ ?_); omega; focus omega)
    | ((with_reducible refine Test.tmodNeF ?_ ?_ ?_); omega; focus omega)
    | ((with_reducible refine Test.tmodEq ?_ (fun h => ?_) (fun h => ?_)); omega)
    | ((with_reducible refine Test.tmodNe ?_ (fun h => ?_) (fun h => ?_)); omega)
    | (with_reducible refine Test.shru8_4 (fun h => ?_) (fun h => ?_))
    | (with_reducible refine Test.shreu8_4 (fun h => ?_) (fun h => ?_))
    | (with_reducible refine Test.shreu32_24 (fun h => ?_) (fun h => ?_))
    | (with_reducible refine Test.shrgeu32_24 (fun h => ?_) (fun h => ?_))
    | ((with_reducible refine Test.notT ?_ ?_); focus assumption)
    | ((with_reducible refine Test.notF ?_ ?_); focus assumption)
    | (with_reducible refine Test.notIe (fun h => ?_) (fun h => ?_))
    | (with_reducible refine Test.notD (fun h => ?_) (fun h => ?_))
    | ((with_reducible refine Test.empty (fun h => ?_) (fun h => ?_)))
    | (with_reducible refine Test.tt ?_)
    | (with_reducible refine Test.ff ?_)
    | ((with_reducible refine Test.dt ?_ ?_); omega)
    | ((with_reducible refine Test.df ?_ ?_); omega)
    | (with_reducible refine Test.d (fun h => ?_) (fun h => ?_))
    | ((with_reducible refine Test.ieT ?_ ?_); omega)
    | ((with_reducible refine Test.ieF ?_ ?_); omega)
    | ((with_reducible refine Test.neT ?_ ?_); omega)
    | ((with_reducible refine Test.neF ?_ ?_); omega)
    | (with_reducible refine Test.ie (fun h => ?_) (fun h => ?_))
    | (with_reducible refine Test.ne (fun h => ?_) (fun h => ?_))
    | ((with_reducible refine Test.b ?_ ?_); (focus first | assumption | (simp [negB]; done) | exact rfl))
    | ((with_reducible refine Test.nb ?_ ?_); (focus first | assumption | (simp [negB]; done) | exact rfl))
    | (with_reducible refine Test.notS (fun h => ?_) (fun h => ?_))
    | (with_reducible refine Test.mk (fun h => ?_) (fun h => ?_))
    | (with_reducible refine Arith.nsu32_24 ?_)
    | (with_reducible refine Arith.nsu32_16 ?_)
    | (with_reducible refine Arith.nsu32_8 ?_)
    | ((with_reducible refine Arith.andu8_15 ?_ ?_); omega)
    | ((with_reducible refine Arith.andu16_8191 ?_ ?_); omega)
    | ((with_reducible refine Arith.bitu16_16384 ?_ ?_); omega)
    | ((with_reducible refine Arith.bitu16_8192 ?_ ?_); omega)
    | ((with_reducible refine Arith.andu64_8191 ?_ ?_); omega)
    | ((with_reducible refine Arith.bitu64_16384 ?_ ?_); omega)
    | ((with_reducible refine Arith.bitu64_8192 ?_ ?_); omega)
    | ((with_reducible refine Arith.tdiv ?_ ?_); omega)
    | (with_reducible refine Arith.bv8 ?_)
    | (with_reducible refine Arith.bv16 ?_)
    | (with_reducible refine Arith.bv32 ?_)
    | (with_reducible refine Arith.bv64 ?_)
    | ((with_reducible refine Arith.i64 ?_ ?_); omega)
    | ((with_reducible refine Arith.u64 ?_ ?_); omega)
    | ((with_reducible refine Arith.u32 ?_ ?_); omega)
    | ((with_reducible refine Arith.u16 ?_ ?_); omega)
    | ((with_reducible refine Arith.u8 ?_ ?_); omega)
    | ((with_reducible refine Arith.i32 ?_ ?_); omega)
    | ((with_reducible refine Arith.i64 ?_ ?_); simp (discharger := omega) only [Int.tdiv_eq_ediv_of_nonneg, shr_u8_4, shl_u8_4, shr_u16_4, shl_u16_4, shr_u16_8, shl_u16_8, shr_u32_4, shl_u32_4, shr_u32_8, shl_u32_8, shr_u32_16, shl_u32_16, shr_u32_24, shl_u32_24, shr_u64_4, shl_u64_4, shr_u64_8, shl_u64_8, shr_u64_16, shl_u64_16, shr_u64_24, shl_u64_24, shr_u64_40, shl_u64_40, shr_i64_4, shl_i64_4, shr_i64_8, shl_i64_8, shr_i64_16, shl_i64_16, shr_i64_24, shl_i64_24, shr_i64_40, shl_i64_40]; omega)
    | ((with_reducible refine Arith.u64 ?_ ?_); simp (discharger := omega) only [Int.tdiv_eq_ediv_of_nonneg, shr_u8_4, shl_u8_4, shr_u16_4, shl_u16_4, shr_u16_8, shl_u16_8, shr_u32_4, shl_u32_4, shr_u32_8, shl_u32_8, shr_u32_16, shl_u32_16, shr_u32_24, shl_u32_24, shr_u64_4, shl_u64_4, shr_u64_8, shl_u64_8, shr_u64_16, shl_u64_16, shr_u64_24, shl_u64_24, shr_u64_40, shl_u64_40, shr_i64_4, shl_i64_4, shr_i64_8, shl_i64_8, shr_i64_16, shl_i64_16, shr_i64_24, shl_i64_24, shr_i64_40, shl_i64_40]; omega)
    | ((with_reducible refine Arith.u32 ?_ ?_); simp (discharger := omega) only [Int.tdiv_eq_ediv_of_nonneg, shr_u8_4, shl_u8_4, shr_u16_4, shl_u16_4, shr_u16_8, shl_u16_8, shr_u32_4, shl_u32_4, shr_u32_8, shl_u32_8, shr_u32_16, shl_u32_16, shr_u32_24, shl_u32_24, shr_u64_4, shl_u64_4, shr_u64_8, shl_u64_8, shr_u64_16, shl_u64_16, shr_u64_24, shl_u64_24, shr_u64_40, shl_u64_40, shr_i64_4, shl_i64_4, shr_i64_8, shl_i64_8, shr_i64_16, shl_i64_16, shr_i64_24, shl_i64_24, shr_i64_40, shl_i64_40]; omega)
    | ((with_reducible refine Arith.u16 ?_ ?_); simp (discharger := omega) only [Int.tdiv_eq_ediv_of_nonneg, shr_u8_4, shl_u8_4, shr_u16_4, shl_u16_4, shr_u16_8, shl_u16_8, shr_u32_4, shl_u32_4, shr_u32_8, shl_u32_8, shr_u32_16, shl_u32_16, shr_u32_24, shl_u32_24, shr_u64_4, shl_u64_4, shr_u64_8, shl_u64_8, shr_u64_16, shl_u64_16, shr_u64_24, shl_u64_24, shr_u64_40, shl_u64_40, shr_i64_4, shl_i64_4, shr_i64_8, shl_i64_8, shr_i64_16, shl_i64_16, shr_i64_24, shl_i64_24, shr_i64_40, shl_i64_40]; omega)
    | ((with_reducible refine Arith.u8 ?_ ?_); simp (discharger := omega) only [Int.tdiv_eq_ediv_of_nonneg, shr_u8_4, shl_u8_4, shr_u16_4, shl_u16_4, shr_u16_8, shl_u16_8, shr_u32_4, shl_u32_4, shr_u32_8, shl_u32_8, shr_u32_16, shl_u32_16, shr_u32_24, shl_u32_24, shr_u64_4, shl_u64_4, shr_u64_8, shl_u64_8, shr_u64_16, shl_u64_16, shr_u64_24, shl_u64_24, shr_u64_40, shl_u64_40, shr_i64_4, shl_i64_4, shr_i64_8, shl_i64_8, shr_i64_16, shl_i64_16, shr_i64_24, shl_i64_24, shr_i64_40, shl_i64_40]; omega)
    | (with_reducible refine Arith.mk ?_)
    | (with_reducible refine Ends.mk ?_))
  all_goals first | exact ⟨vB_t (by omega), rfl⟩ | exact ⟨vB_f (by omega), rfl⟩ | exact ⟨vB_te (by omega), rfl⟩
end G2
end Go.Proofs.Ytnmeeafnobfobaa.VM
