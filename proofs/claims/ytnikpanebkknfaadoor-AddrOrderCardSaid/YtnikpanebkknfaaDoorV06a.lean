/- law 06 by the evaluator: kinds, texts. -/
import Derived.Test.YtnikpanebkknfaaDoorB4
import Derived.Test.YtnikpanebkknfaaDoorVBw4
namespace Go.Proofs.YtnikpanebkknfaaDoor.VM
namespace G4
open Go.RowKit
set_option linter.unusedVariables false
set_option linter.unusedSimpArgs false
set_option maxRecDepth 100000
variable {G : Ground}
def vf_addr_Kind_1 : VFn := ⟨(.seq (.reg [
    ⟨(some 1), .mv (.c (.p (.o (.bool false)))), none, 0⟩] 0 none) (.seq (.reg [
    ⟨(some 2), .ld none (.t 0), none, 0⟩,
    ⟨(some 3), .bin .eql (.t 2) (.c (.p (.o (.int .u32 0)))), none, 0⟩,
    ⟨(some 1), .mv (.t 3), none, 0⟩] 0 none) .ret)),
  [.tmp 1], 4, [0, 1]⟩
theorem ok_addr_Kind_1 : cFn Tryd.prog eqsT newsT vf_addr_Kind_1.keep Tryd.f55 = some vf_addr_Kind_1 := by kernel_rfl
def vf_addr_Kind_2 : VFn := ⟨(.seq (.reg [
    ⟨(some 1), .mv (.c (.p (.o (.bool false)))), none, 0⟩] 0 none) (.seq (.reg [
    ⟨(some 2), .ld none (.t 0), none, 0⟩,
    ⟨(some 3), .bin .eql (.t 2) (.c (.p (.o (.int .u32 4294967295)))), none, 0⟩,
    ⟨(some 1), .mv (.t 3), none, 0⟩] 0 none) .ret)),
  [.tmp 1], 4, [0, 1]⟩
theorem ok_addr_Kind_2 : cFn Tryd.prog eqsT newsT vf_addr_Kind_2.keep Tryd.f56 = some vf_addr_Kind_2 := by kernel_rfl
def vf_addr_Kind_3 : VFn := ⟨(.seq (.reg [
    ⟨(some 1), .mv (.c (.p (.o (.bool false)))), none, 0⟩] 0 none) (.seq (.reg [
    ⟨(some 2), .ld none (.t 0), none, 0⟩,
    ⟨(some 3), .bin .eql (.t 2) (.c (.p (.o (.int .u8 127)))), none, 0⟩,
    ⟨(some 1), .mv (.t 3), none, 0⟩] 0 none) .ret)),
  [.tmp 1], 4, [0, 1]⟩
theorem ok_addr_Kind_3 : cFn Tryd.prog eqsT newsT vf_addr_Kind_3.keep Tryd.f57 = some vf_addr_Kind_3 := by kernel_rfl
def vf_addr_Kind_4 : VFn := ⟨(.seq (.reg [
    ⟨(some 1), .mv (.c (.p (.o (.bool false)))), none, 0⟩] 0 none) (.seq (.reg [
    ⟨(some 2), .ld none (.t 0), none, 0⟩,
    ⟨(some 3), .bin .geq (.t 2) (.c (.p (.o (.int .u8 240)))), none, 0⟩,
    ⟨(some 1), .mv (.t 3), none, 0⟩] 0 none) .ret)),
  [.tmp 1], 4, [0, 1]⟩
theorem ok_addr_Kind_4 : cFn Tryd.prog eqsT newsT vf_addr_Kind_4.keep Tryd.f58 = some vf_addr_Kind_4 := by kernel_rfl
def vf_addr_Kind_5 : VFn := ⟨(.seq (.reg [
    ⟨(some 1), .mv (.c (.p (.o (.bool false)))), none, 0⟩] 0 none) (.seq (.reg [
    ⟨(some 2), .ld none (.t 0), none, 0⟩,
    ⟨(some 3), .bin .geq (.t 2) (.c (.p (.o (.int .u8 224)))), none, 0⟩,
    ⟨(some 1), .mv (.t 3), none, 0⟩] 0 none) .ret)),
  [.tmp 1], 4, [0, 1]⟩
theorem ok_addr_Kind_5 : cFn Tryd.prog eqsT newsT vf_addr_Kind_5.keep Tryd.f59 = some vf_addr_Kind_5 := by kernel_rfl
def vf_addr_parts : VFn := ⟨(.seq (.reg [
    ⟨(some 2), .new [.int .u8 0, .int .u8 0, .int .u8 0, .int .u8 0], none, 0⟩] 1 none) (.seq (.reg [
    ⟨(some 3), .mv (.t 0), none, 0⟩,
    ⟨(some 4), .bin .shr (.t 3) (.c (.p (.o (.int .u64 24)))), none, 0⟩,
    ⟨(some 5), .cvi .u8 (.t 4), none, 0⟩,
    ⟨(some 6), .mv (.t 0), none, 0⟩,
    ⟨(some 7), .bin .shr (.t 6) (.c (.p (.o (.int .u64 16)))), none, 0⟩,
    ⟨(some 8), .cvi .u8 (.t 7), none, 0⟩,
    ⟨(some 9), .mv (.t 0), none, 0⟩,
    ⟨(some 10), .bin .shr (.t 9) (.c (.p (.o (.int .u64 8)))), none, 0⟩,
    ⟨(some 11), .cvi .u8 (.t 10), none, 0⟩,
    ⟨(some 12), .mv (.t 0), none, 0⟩,
    ⟨(some 13), .cvi .u8 (.t 12), none, 0⟩,
    ⟨(some 14), .bld [.int .u8 0, .int .u8 0, .int .u8 0, .int .u8 0] [(0, 1, (.t 5)), (1, 1, (.t 8)), (2, 1, (.t 11)), (3, 1, (.t 13))], none, 0⟩,
    ⟨none, .st 4 (.t 2) (.t 14), none, 0⟩] 0 none) .ret)),
  [.cell 2 (some 4)], 15, [0, 2]⟩
theorem ok_addr_parts : cFn Tryd.prog eqsT newsT vf_addr_parts.keep Tryd.f50 = some vf_addr_parts := by kernel_rfl
def vf_addr_Kind : VFn := ⟨(.seq (.reg [
    ⟨(some 1), .box (.t 0), none, 0⟩,
    ⟨(some 2), .mv (.c (.p (.o (.int .u8 0)))), none, 1⟩] 1 none) (.seq (.reg [
    ⟨(some 6), .ld none (.t 1), none, 0⟩,
    ⟨(some 7), .call 50 [(.t 6)] 0, none, 0⟩,
    ⟨(some 8), .ixa 4 1 none (.t 7) (.c (.p (.o (.int .i64 0)))), none, 0⟩,
    ⟨(some 3), .new [.int .u8 0], none, 0⟩,
    ⟨none, .st 1 (.t 3) (.t 8), none, 1⟩] 1 none) (.seq (.seq (.reg [
    ⟨(some 9), .mkf 55 [(.t 1)], none, 0⟩,
    ⟨(some 10), .bld [.nilfn, .int .u8 0] [(0, 1, (.t 9)), (1, 1, (.c (.p (.o (.int .u8 1)))))], none, 0⟩,
    ⟨(some 11), .mkf 56 [(.t 1)], none, 0⟩,
    ⟨(some 12), .bld [.nilfn, .int .u8 0] [(0, 1, (.t 11)), (1, 1, (.c (.p (.o (.int .u8 5)))))], none, 0⟩,
    ⟨(some 13), .mkf 57 [(.t 3)], none, 0⟩,
    ⟨(some 14), .bld [.nilfn, .int .u8 0] [(0, 1, (.t 13)), (1, 1, (.c (.p (.o (.int .u8 2)))))], none, 0⟩,
    ⟨(some 15), .mkf 58 [(.t 3)], none, 0⟩,
    ⟨(some 16), .bld [.nilfn, .int .u8 0] [(0, 1, (.t 15)), (1, 1, (.c (.p (.o (.int .u8 4)))))], none, 0⟩,
    ⟨(some 17), .mkf 59 [(.t 3)], none, 0⟩,
    ⟨(some 18), .bld [.nilfn, .int .u8 0] [(0, 1, (.t 17)), (1, 1, (.c (.p (.o (.int .u8 3)))))], none, 0⟩,
    ⟨(some 19), .bsl 5 [.nilfn, .int .u8 0, .nilfn, .int .u8 0, .nilfn, .int .u8 0, .nilfn, .int .u8 0, .nilfn, .int .u8 0] [(0, 2, (.t 10)), (2, 2, (.t 12)), (4, 2, (.t 14)), (6, 2, (.t 16)), (8, 2, (.t 18))], none, 0⟩,
    ⟨(some 20), .len true (.t 19), none, 1⟩,
    ⟨(some 21), .mv (.c (.p (.o (.int .i64 0)))), none, 1⟩] 1 none) (.block 0 (.loop (.seq (.reg [
    ⟨(some 22), .bin .lss (.t 21) (.t 20), none, 0⟩] 0 none) (.seq (.cond (.t 22) .skip (.exit 0)) (.seq (.block 1 (.seq (.reg [
    ⟨(some 23), .iad 2 (.t 19) (.t 21), none, 0⟩,
    ⟨(some 24), .ld (some 2) (.t 23), none, 0⟩,
    ⟨(some 5), .new [.nilfn, .int .u8 0], none, 0⟩,
    ⟨none, .st 2 (.t 5) (.t 24), none, 1⟩] 1 none) (.seq (.reg [
    ⟨(some 25), .fad 0 (.t 5), none, 0⟩,
    ⟨(some 26), .ld none (.t 25), none, 0⟩,
    ⟨(some 27), .callv (.t 26) [] 2, none, 0⟩] 2 none) (.cond (.t 27) (.seq (.reg [
    ⟨(some 28), .fad 1 (.t 5), none, 0⟩,
    ⟨(some 29), .ld none (.t 28), none, 0⟩,
    ⟨(some 2), .mv (.t 29), none, 0⟩] 0 none) .ret) .skip)))) (.reg [
    ⟨(some 30), .bin .add (.t 21) (.c (.p (.o (.int .i64 1)))), none, 0⟩,
    ⟨(some 21), .mv (.t 30), none, 0⟩] 0 none))))))) (.seq (.reg [
    ⟨(some 2), .mv (.c (.p (.o (.int .u8 0)))), none, 0⟩] 0 none) .ret)))),
  [.tmp 2], 31, [0, 1, 2, 3, 5, 19, 20, 21]⟩
theorem ok_addr_Kind : cFn Tryd.prog eqsT newsT vf_addr_Kind.keep Tryd.f21 = some vf_addr_Kind := by kernel_rfl
def vf_ref06_Kind : VFn := ⟨(.seq (.reg [
    ⟨(some 2), .mv (.c (.p (.o (.int .u8 0)))), none, 0⟩] 0 none) (.seq (.reg [
    ⟨(some 4), .mv (.t 0), none, 0⟩,
    ⟨(some 5), .bin .shr (.t 4) (.c (.p (.o (.int .u64 24)))), none, 0⟩,
    ⟨(some 3), .mv (.t 5), none, 0⟩] 0 none) (.seq (.block 0 (.seq (.reg [
    ⟨(some 7), .mv (.t 0), none, 0⟩,
    ⟨(some 8), .bin .eql (.t 7) (.c (.p (.o (.int .u32 0)))), none, 0⟩,
    ⟨(some 6), .mv (.t 8), none, 0⟩] 0 none) (.cond (.t 6) (.seq (.reg [
    ⟨(some 2), .mv (.c (.p (.o (.int .u8 1)))), none, 0⟩] 0 none) .ret) (.seq (.reg [
    ⟨(some 10), .mv (.t 0), none, 0⟩,
    ⟨(some 11), .bin .eql (.t 10) (.c (.p (.o (.int .u32 4294967295)))), none, 0⟩,
    ⟨(some 9), .mv (.t 11), none, 0⟩] 0 none) (.cond (.t 9) (.seq (.reg [
    ⟨(some 2), .mv (.c (.p (.o (.int .u8 5)))), none, 0⟩] 0 none) .ret) (.seq (.reg [
    ⟨(some 13), .mv (.t 3), none, 0⟩,
    ⟨(some 14), .bin .eql (.t 13) (.c (.p (.o (.int .u32 127)))), none, 0⟩,
    ⟨(some 12), .mv (.t 14), none, 0⟩] 0 none) (.cond (.t 12) (.seq (.reg [
    ⟨(some 2), .mv (.c (.p (.o (.int .u8 2)))), none, 0⟩] 0 none) .ret) (.seq (.reg [
    ⟨(some 16), .mv (.t 3), none, 0⟩,
    ⟨(some 17), .bin .geq (.t 16) (.c (.p (.o (.int .u32 240)))), none, 0⟩,
    ⟨(some 15), .mv (.t 17), none, 0⟩] 0 none) (.cond (.t 15) (.seq (.reg [
    ⟨(some 2), .mv (.c (.p (.o (.int .u8 4)))), none, 0⟩] 0 none) .ret) (.seq (.reg [
    ⟨(some 19), .mv (.t 3), none, 0⟩,
    ⟨(some 20), .bin .geq (.t 19) (.c (.p (.o (.int .u32 224)))), none, 0⟩,
    ⟨(some 18), .mv (.t 20), none, 0⟩] 0 none) (.cond (.t 18) (.seq (.reg [
    ⟨(some 2), .mv (.c (.p (.o (.int .u8 3)))), none, 0⟩] 0 none) .ret) .skip))))))))))) (.seq (.reg [
    ⟨(some 2), .mv (.c (.p (.o (.int .u8 0)))), none, 0⟩] 0 none) .ret)))),
  [.tmp 2], 21, [0, 2, 3]⟩
theorem ok_ref06_Kind : cFn Tryd.prog eqsT newsT vf_ref06_Kind.keep Tryd.f22 = some vf_ref06_Kind := by kernel_rfl
def vf_addr_Text : VFn := ⟨(.seq (.reg [
    ⟨(some 2), .mv (.c (.p (.o (.str ⟨#[]⟩)))), none, 0⟩] 0 none) (.seq (.reg [
    ⟨(some 7), .mv (.t 0), none, 0⟩,
    ⟨(some 8), .call 50 [(.t 7)] 0, none, 0⟩,
    ⟨(some 3), .new [.int .u8 0, .int .u8 0, .int .u8 0, .int .u8 0], none, 0⟩,
    ⟨none, .st 4 (.t 3) (.t 8), none, 1⟩] 1 none) (.seq (.reg [
    ⟨(some 4), .mv (.c (.p (.o (.nils)))), none, 0⟩] 0 none) (.seq (.seq (.reg [
    ⟨(some 9), .ld (some 4) (.t 3), none, 0⟩,
    ⟨(some 10), .mv (.c (.p (.o (.int .i64 0)))), none, 0⟩] 0 none) (.block 0 (.loop (.seq (.reg [
    ⟨(some 11), .bin .lss (.t 10) (.c (.p (.o (.int .i64 4)))), none, 0⟩] 0 none) (.seq (.cond (.t 11) .skip (.exit 0)) (.seq (.block 1 (.seq (.reg [
    ⟨(some 12), .ixa 4 1 none (.t 9) (.t 10), none, 0⟩,
    ⟨(some 6), .mv (.t 12), none, 0⟩] 0 none) (.reg [
    ⟨(some 13), .mv (.t 4), none, 0⟩,
    ⟨(some 14), .mv (.t 6), none, 0⟩,
    ⟨(some 15), .cvi .i64 (.t 14), none, 0⟩,
    ⟨(some 16), .call 51 [(.t 15)] 0, none, 0⟩,
    ⟨(some 17), .bsl 1 [.str ⟨#[]⟩] [(0, 1, (.t 16))], none, 0⟩,
    ⟨(some 18), .app 1 16 (.t 13) (.t 17), none, 1⟩,
    ⟨(some 4), .mv (.t 18), none, 2⟩] 2 none))) (.reg [
    ⟨(some 19), .bin .add (.t 10) (.c (.p (.o (.int .i64 1)))), none, 0⟩,
    ⟨(some 10), .mv (.t 19), none, 0⟩] 0 none))))))) (.seq (.reg [
    ⟨(some 20), .mv (.t 4), none, 0⟩,
    ⟨(some 21), .call 52 [(.t 20), (.c (.p (.o (.str ⟨#[46]⟩))))] 0, none, 0⟩,
    ⟨(some 2), .mv (.t 21), none, 0⟩] 0 none) .ret))))),
  [.tmp 2], 22, [0, 2, 3, 4, 6, 9, 10]⟩
theorem ok_addr_Text : cFn Tryd.prog eqsT newsT vf_addr_Text.keep Tryd.f19 = some vf_addr_Text := by kernel_rfl
def vf_ref06_Num : VFn := ⟨(.seq (.reg [
    ⟨(some 2), .mv (.c (.p (.o (.str ⟨#[]⟩)))), none, 0⟩] 0 none) (.seq (.reg [
    ⟨(some 3), .mv (.c (.p (.o (.str ⟨#[]⟩)))), none, 0⟩] 0 none) (.seq (.block 0 (.loop (.seq (.seq (.reg [
    ⟨(some 4), .mv (.t 0), none, 0⟩,
    ⟨(some 5), .bin .gtr (.t 4) (.c (.p (.o (.int .i64 9)))), none, 0⟩] 0 none) (.cond (.t 5) .skip (.exit 0))) (.block 1 (.seq (.reg [
    ⟨(some 6), .mv (.t 0), none, 0⟩,
    ⟨(some 7), .bin .rem (.t 6) (.c (.p (.o (.int .i64 10)))), none, 0⟩,
    ⟨(some 8), .bin .add (.c (.p (.o (.int .i64 48)))) (.t 7), none, 0⟩,
    ⟨(some 9), .cvi .u8 (.t 8), none, 0⟩,
    ⟨(some 10), .bsl 1 [.int .u8 0] [(0, 1, (.t 9))], none, 0⟩,
    ⟨(some 11), .b2s (.t 10), none, 1⟩,
    ⟨(some 12), .mv (.t 3), none, 1⟩,
    ⟨(some 13), .bin .add (.t 11) (.t 12), none, 1⟩,
    ⟨(some 3), .mv (.t 13), none, 1⟩] 1 none) (.reg [
    ⟨(some 14), .mv (.t 0), none, 0⟩,
    ⟨(some 15), .bin .quo (.t 14) (.c (.p (.o (.int .i64 10)))), none, 0⟩,
    ⟨(some 0), .mv (.t 15), none, 0⟩] 0 none)))))) (.seq (.reg [
    ⟨(some 16), .mv (.t 0), none, 0⟩,
    ⟨(some 17), .bin .add (.c (.p (.o (.int .i64 48)))) (.t 16), none, 0⟩,
    ⟨(some 18), .cvi .u8 (.t 17), none, 0⟩,
    ⟨(some 19), .bsl 1 [.int .u8 0] [(0, 1, (.t 18))], none, 0⟩,
    ⟨(some 20), .b2s (.t 19), none, 1⟩,
    ⟨(some 21), .mv (.t 3), none, 1⟩,
    ⟨(some 22), .bin .add (.t 20) (.t 21), none, 1⟩,
    ⟨(some 2), .mv (.t 22), none, 1⟩] 1 none) .ret)))),
  [.tmp 2], 23, [0, 2, 3]⟩
theorem ok_ref06_Num : cFn Tryd.prog eqsT newsT vf_ref06_Num.keep Tryd.f54 = some vf_ref06_Num := by kernel_rfl
def vf_ref06_Text : VFn := ⟨(.seq (.reg [
    ⟨(some 2), .mv (.c (.p (.o (.str ⟨#[]⟩)))), none, 0⟩] 0 none) (.seq (.reg [
    ⟨(some 4), .mv (.t 0), none, 0⟩,
    ⟨(some 5), .cvi .u64 (.t 4), none, 0⟩,
    ⟨(some 6), .call 53 [(.t 5), (.c (.p (.o (.int .i64 4))))] 0, none, 0⟩,
    ⟨(some 3), .mv (.t 6), none, 0⟩] 0 none) (.seq (.reg [
    ⟨(some 7), .mv (.t 3), none, 0⟩,
    ⟨(some 8), .ixs (.t 7) (.c (.p (.o (.int .i64 0)))), none, 0⟩,
    ⟨(some 9), .cvi .i64 (.t 8), none, 0⟩,
    ⟨(some 10), .call 54 [(.t 9)] 0, none, 0⟩,
    ⟨(some 11), .bin .add (.t 10) (.c (.p (.o (.str ⟨#[46]⟩)))), none, 0⟩,
    ⟨(some 12), .mv (.t 3), none, 0⟩,
    ⟨(some 13), .ixs (.t 12) (.c (.p (.o (.int .i64 1)))), none, 0⟩,
    ⟨(some 14), .cvi .i64 (.t 13), none, 0⟩,
    ⟨(some 15), .call 54 [(.t 14)] 0, none, 0⟩,
    ⟨(some 16), .bin .add (.t 11) (.t 15), none, 0⟩,
    ⟨(some 17), .bin .add (.t 16) (.c (.p (.o (.str ⟨#[46]⟩)))), none, 0⟩,
    ⟨(some 18), .mv (.t 3), none, 0⟩,
    ⟨(some 19), .ixs (.t 18) (.c (.p (.o (.int .i64 2)))), none, 0⟩,
    ⟨(some 20), .cvi .i64 (.t 19), none, 0⟩,
    ⟨(some 21), .call 54 [(.t 20)] 0, none, 0⟩,
    ⟨(some 22), .bin .add (.t 17) (.t 21), none, 0⟩,
    ⟨(some 23), .bin .add (.t 22) (.c (.p (.o (.str ⟨#[46]⟩)))), none, 0⟩,
    ⟨(some 24), .mv (.t 3), none, 0⟩,
    ⟨(some 25), .ixs (.t 24) (.c (.p (.o (.int .i64 3)))), none, 0⟩,
    ⟨(some 26), .cvi .i64 (.t 25), none, 0⟩,
    ⟨(some 27), .call 54 [(.t 26)] 0, none, 0⟩,
    ⟨(some 28), .bin .add (.t 23) (.t 27), none, 0⟩,
    ⟨(some 2), .mv (.t 28), none, 0⟩] 0 (some [(0, 5), (1, 5), (2, 5), (3, 5), (4, 5), (0, 6), (1, 6), (2, 6), (3, 6), (4, 6), (0, 7), (1, 7), (2, 7), (3, 7), (4, 7), (4, 8), (0, 11), (1, 11), (2, 11), (3, 11), (4, 11), (5, 11), (6, 11), (7, 11), (8, 11), (9, 11), (10, 11), (0, 12), (1, 12), (2, 12), (3, 12), (4, 12), (5, 12), (6, 12), (7, 12), (8, 12), (9, 12), (10, 12), (0, 13), (1, 13), (2, 13), (3, 13), (4, 13), (5, 13), (6, 13), (7, 13), (8, 13), (9, 13), (10, 13), (4, 14), (9, 14), (10, 14), (0, 17), (1, 17), (2, 17), (3, 17), (4, 17), (5, 17), (6, 17), (7, 17), (8, 17), (9, 17), (10, 17), (11, 17), (12, 17), (13, 17), (14, 17), (15, 17), (16, 17), (0, 18), (1, 18), (2, 18), (3, 18), (4, 18), (5, 18), (6, 18), (7, 18), (8, 18), (9, 18), (10, 18), (11, 18), (12, 18), (13, 18), (14, 18), (15, 18), (16, 18), (0, 19), (1, 19), (2, 19), (3, 19), (4, 19), (5, 19), (6, 19), (7, 19), (8, 19), (9, 19), (10, 19), (11, 19), (12, 19), (13, 19), (14, 19), (15, 19), (16, 19), (4, 20), (9, 20), (10, 20), (15, 20), (16, 20)])) .ret))),
  [.tmp 2], 29, [0, 2, 3]⟩
theorem ok_ref06_Text : cFn Tryd.prog eqsT newsT vf_ref06_Text.keep Tryd.f20 = some vf_ref06_Text := by kernel_rfl
theorem Arith.tm10 {a : Int} {K : Int → Prop} (h : 0 ≤ a ∧ a ≤ 1000000) (g : K (48 + a % 10)) : Arith .i64 (48 + a.tmod 10) K := by
  rw [Int.tmod_eq_emod_of_nonneg h.1]; exact .i64 (by omega) g
theorem Arith.m8 {a : Int} {K : Int → Prop} (g : K (a % 256)) : Arith .u8 a K := ⟨by rw [IntKind.wrap_u8]; exact g⟩
theorem Arith.bi {s : ByteArray} {i : Nat} {K : Int → Prop} (g : K (bAt s i)) : Arith .i64 (bAt s i) K := .i64 (by have := bAt_bd s i; omega) g
theorem Arith.bu4 {s : ByteArray} {i : Nat} {K : Int → Prop} (g : K (bAt s i)) : Arith .u32 (bAt s i) K := .u32 (by have := bAt_bd s i; omega) g
/-- The kind of an address. -/
def kindA (ip : Int) : Int := if ip = 0 then 1 else if ip = 4294967295 then 5 else if ip / 16777216 = 127 then 2 else if ip / 16777216 ≥ 240 then 4 else if ip / 16777216 ≥ 224 then 3 else 0
abbrev dotB : ByteArray := ⟨#[46]⟩
/-- An address's text. -/
def textB (ip : Int) : ByteArray := joinB [itoaB (ip / 16777216), itoaB (ip / 65536 % 256), itoaB (ip / 256 % 256), itoaB (ip % 256)] dotB
theorem ba_nil (a : ByteArray) : a ++ (⟨#[]⟩ : ByteArray) = a := by apply ByteArray.ext; apply Array.ext'; simp
theorem itoa1 {n : Int} (h : 0 ≤ n ∧ n ≤ 9) : itoaB n = ⟨#[UInt8.ofNat (48 + n).toNat]⟩ := by
  obtain ⟨k, rfl⟩ := Int.eq_ofNat_of_zero_le h.1
  unfold itoaB Lib.itoa
  rw [if_neg (by omega), Int.toNat_natCast, Lib.decDigits, dif_pos (by omega)]
  congr 3
theorem itoa2 {n : Int} (h : 10 ≤ n ∧ n ≤ 99) : itoaB n = ⟨#[UInt8.ofNat (48 + n / 10).toNat]⟩ ++ ⟨#[UInt8.ofNat (48 + n % 10).toNat]⟩ := by
  obtain ⟨k, rfl⟩ := Int.eq_ofNat_of_zero_le (show 0 ≤ n by omega)
  unfold itoaB Lib.itoa
  rw [if_neg (by omega), Int.toNat_natCast, Lib.decDigits, dif_neg (by omega), Lib.decDigits, dif_pos (by omega)]
  apply ByteArray.ext; apply Array.ext'
  have e1 : (48 + (k : Int) / 10).toNat = 48 + k / 10 := by omega
  have e2 : (48 + (k : Int) % 10).toNat = 48 + k % 10 := by omega
  rw [e1, e2]
  simp
theorem itoa3 {n : Int} (h : 100 ≤ n ∧ n ≤ 255) : itoaB n = ⟨#[UInt8.ofNat (48 + n / 10 / 10).toNat]⟩ ++ (⟨#[UInt8.ofNat (48 + n / 10 % 10).toNat]⟩ ++ ⟨#[UInt8.ofNat (48 + n % 10).toNat]⟩) := by
  obtain ⟨k, rfl⟩ := Int.eq_ofNat_of_zero_le (show 0 ≤ n by omega)
  unfold itoaB Lib.itoa
  rw [if_neg (by omega), Int.toNat_natCast, Lib.decDigits, dif_neg (by omega), Lib.decDigits, dif_neg (by omega), Lib.decDigits, dif_pos (by omega)]
  apply ByteArray.ext; apply Array.ext'
  have e1 : (48 + (k : Int) / 10 / 10).toNat = 48 + k / 10 / 10 := by omega
  have e2 : (48 + (k : Int) / 10 % 10).toNat = 48 + k / 10 % 10 := by omega
  have e3 : (48 + (k : Int) % 10).toNat = 48 + k % 10 := by omega
  rw [e1, e2, e3]
  simp
theorem itoa_size {n : Int} (h : 0 ≤ n ∧ n ≤ 255) : 1 ≤ (itoaB n).size ∧ (itoaB n).size ≤ 3 := by
  by_cases h1 : n ≤ 9
  · rw [itoa1 ⟨h.1, h1⟩]; exact ⟨Nat.le_refl _, by show 1 ≤ 3; omega⟩
  · by_cases h2 : n ≤ 99
    · rw [itoa2 (by omega), ByteArray.size_append]; exact ⟨by show 1 ≤ 2; omega, by show 2 ≤ 3; omega⟩
    · rw [itoa3 (by omega), ByteArray.size_append, ByteArray.size_append]; exact ⟨by show 1 ≤ 3; omega, by show 3 ≤ 3; omega⟩
theorem join4 (a b c d : ByteArray) : joinB [a, b, c, d] dotB = a ++ dotB ++ b ++ dotB ++ c ++ dotB ++ d := by
  apply ByteArray.ext; apply Array.ext'
  simp [joinB, Lib.join, List.intercalate]
theorem join4_det (a b c d : ByteArray) (r s : Bool) (cc : Cap) (h : a.size + b.size + c.size + d.size ≤ 1000000) : Det G Tryd.prog 52 [.o (.slc 0 0 (1 + 1 + 1 + 1) cc), .o (.str ⟨#[46]⟩)] [.row r s [.str a, .str b, .str c, .str d]] (vS (joinB [a, b, c, d] dotB)) [.row r s [.str a, .str b, .str c, .str d]] :=
  join_det [a, b, c, d] dotB r s cc (1 + 1 + 1 + 1) rfl (by omega) (by rw [join4]; simp only [ByteArray.size_append, show dotB.size = 1 from rfl]; omega)
theorem text_size {ip : Int} (h : 0 ≤ ip ∧ ip ≤ 4294967295) : 7 ≤ (textB ip).size ∧ (textB ip).size ≤ 15 := by
  have h1 := itoa_size (n := ip / 16777216) (by omega)
  have h2 := itoa_size (n := ip / 65536 % 256) (by omega)
  have h3 := itoa_size (n := ip / 256 % 256) (by omega)
  have h4 := itoa_size (n := ip % 256) (by omega)
  unfold textB
  rw [join4]
  simp only [ByteArray.size_append, show dotB.size = 1 from rfl]
  omega
theorem bAt_of4 (ip : Int) (h : 0 ≤ ip ∧ ip ≤ 4294967295) : bAt (Sp.ofB ip 4) 0 = ip / 16777216 ∧ bAt (Sp.ofB ip 4) 1 = ip / 65536 % 256 ∧ bAt (Sp.ofB ip 4) 2 = ip / 256 % 256 ∧ bAt (Sp.ofB ip 4) 3 = ip % 256 := by
  rw [Sp.ofB_succ, Sp.ofB_succ, Sp.ofB_succ, Sp.ofB_succ, Sp.ofB_zero]
  refine ⟨?_, ?_, ?_, ?_⟩ <;> simp [bAt] <;> omega
set_option maxHeartbeats 4000000 in
theorem kind_det (ip : Int) (h : 0 ≤ ip ∧ ip ≤ 4294967295) : Det G Tryd.prog 21 [.o (.int .u32 ip)] [] (vI .u8 (kindA ip)) [] := by
  refine can_of_W known mix Tryd.func21 (by kernel_rfl) ok_addr_Kind (Nat.le_of_ble_eq_true rfl) ?_
  repeat' ((conv => whnf); first
    | ((with_reducible refine Look.mk ?_); refine ⟨_, rfl, ?_⟩)
    | ((with_reducible refine LookN.zeros ?_))
    | ((with_reducible refine LookN.bytes ?_ ?_); (simp; done))
    | ((with_reducible refine BytesW.bytes ?_))
    | ((with_reducible refine Look.byte ?_ ?_); omega)
    | ((with_reducible refine Look.setb ?_ ?_ ?_); exact bv8_bd _; omega)
    | ((with_reducible refine LookN.setb ?_ ?_ ?_); exact bv8_bd _; omega)
    | ((with_reducible refine LookN.mk ?_); refine ⟨_, rfl, ?_⟩)
    | ((with_reducible refine Need.mk ?_ ?_); first | ((with_reducible refine needB ?_); kernel_rfl) | with_reducible rfl | omega | (with_reducible refine ⟨rfl, ?_⟩; focus omega) | (simp only [ByteArray.size_append, size_lit, List.size_toArray, List.length_cons, List.length_nil, Sp.ofB_size, ByteArray.size_extract]; omega) | exact rfl | trivial | exact Nat.le_of_ble_eq_true rfl | (exact ⟨rfl, by omega⟩) | (intro h; first | rfl | cases h) | (simp only [lenS_text, lenS_setN, lenS_zeros]; omega))
    | ((with_reducible refine BytesW.mk ?_); refine ⟨_, rfl, ?_⟩)
    | (with_reducible refine LoopW.unroll (fun X hX => ?_))
    | (refine hX _ _ ?_)
    | (with_reducible refine CallW.can (can_of_W known mix Tryd.func50 (by kernel_rfl) ok_addr_parts (Nat.le_of_ble_eq_true rfl) ?_) (fun _ _ h => h))
    | (with_reducible refine CallW.can (can_of_W known mix Tryd.func55 (by kernel_rfl) ok_addr_Kind_1 (Nat.le_of_ble_eq_true rfl) ?_) (fun _ _ h => h))
    | (with_reducible refine CallW.can (can_of_W known mix Tryd.func56 (by kernel_rfl) ok_addr_Kind_2 (Nat.le_of_ble_eq_true rfl) ?_) (fun _ _ h => h))
    | (with_reducible refine CallW.can (can_of_W known mix Tryd.func57 (by kernel_rfl) ok_addr_Kind_3 (Nat.le_of_ble_eq_true rfl) ?_) (fun _ _ h => h))
    | (with_reducible refine CallW.can (can_of_W known mix Tryd.func58 (by kernel_rfl) ok_addr_Kind_4 (Nat.le_of_ble_eq_true rfl) ?_) (fun _ _ h => h))
    | (with_reducible refine CallW.can (can_of_W known mix Tryd.func59 (by kernel_rfl) ok_addr_Kind_5 (Nat.le_of_ble_eq_true rfl) ?_) (fun _ _ h => h))
    | ((with_reducible refine Test.tmodEqT ?_ ?_ ?_); omega; focus first | omega | assumption)
    | ((with_reducible refine Test.tmodEqF ?_ ?_ ?_); omega; focus first | omega | assumption)
    | ((with_reducible refine Test.tmodNeT ?_ ?_ ?_); omega; focus first | omega | assumption)
    | ((with_reducible refine Test.tmodNeF ?_ ?_ ?_); omega; focus first | omega | assumption)
    | ((with_reducible refine Test.tmodEq ?_ (fun h => ?_) (fun h => ?_)); omega)
    | ((with_reducible refine Test.tmodNe ?_ (fun h => ?_) (fun h => ?_)); omega)
    | (with_reducible refine Test.shru8_4 (fun h => ?_) (fun h => ?_))
    | (with_reducible refine Test.shreu8_4 (fun h => ?_) (fun h => ?_))
    | (with_reducible refine Test.shreu32_24 (fun h => ?_) (fun h => ?_))
    | (with_reducible refine Test.shrgeu32_24 (fun h => ?_) (fun h => ?_))
    | ((with_reducible refine Test.notT ?_ ?_); focus assumption)
    | ((with_reducible refine Test.notF ?_ ?_); focus assumption)
    | (with_reducible refine Test.notIe (fun h => ?_) (fun h => ?_))
    | (with_reducible refine Test.notD (fun h => ?_) (fun h => ?_))
    | ((with_reducible refine Test.empty (fun h => ?_) (fun h => ?_)))
    | (with_reducible refine Test.tt ?_)
    | (with_reducible refine Test.ff ?_)
    | ((with_reducible refine Test.dt ?_ ?_); omega)
    | ((with_reducible refine Test.df ?_ ?_); omega)
    | (with_reducible refine Test.d (fun h => ?_) (fun h => ?_))
    | ((with_reducible refine Test.ieT ?_ ?_); omega)
    | ((with_reducible refine Test.ieF ?_ ?_); omega)
    | ((with_reducible refine Test.neT ?_ ?_); omega)
    | ((with_reducible refine Test.neF ?_ ?_); omega)
    | (with_reducible refine Test.ie (fun h => ?_) (fun h => ?_))
    | (with_reducible refine Test.ne (fun h => ?_) (fun h => ?_))
    | ((with_reducible refine Test.b ?_ ?_); (focus first | assumption | (simp [negB]; done) | exact rfl))
    | ((with_reducible refine Test.nb ?_ ?_); (focus first | assumption | (simp [negB]; done) | exact rfl))
    | (with_reducible refine Test.notS (fun h => ?_) (fun h => ?_))
    | (with_reducible refine Test.mk (fun h => ?_) (fun h => ?_))
    | (with_reducible refine Arith.nsu32_24 ?_)
    | (with_reducible refine Arith.nsu32_16 ?_)
    | (with_reducible refine Arith.nsu32_8 ?_)
    | ((with_reducible refine Arith.tdiv ?_ ?_); omega)
    | (with_reducible refine Arith.bv8 ?_)
    | (with_reducible refine Arith.bv16 ?_)
    | (with_reducible refine Arith.bv32 ?_)
    | (with_reducible refine Arith.bv64 ?_)
    | ((with_reducible refine Arith.i64 ?_ ?_); omega)
    | ((with_reducible refine Arith.u64 ?_ ?_); omega)
    | ((with_reducible refine Arith.u32 ?_ ?_); omega)
    | ((with_reducible refine Arith.u16 ?_ ?_); omega)
    | ((with_reducible refine Arith.u8 ?_ ?_); omega)
    | ((with_reducible refine Arith.i32 ?_ ?_); omega)
    | ((with_reducible refine Arith.i64 ?_ ?_); simp (discharger := omega) only [Int.tdiv_eq_ediv_of_nonneg, shr_u8_4, shl_u8_4, shr_u16_4, shl_u16_4, shr_u16_8, shl_u16_8, shr_u32_4, shl_u32_4, shr_u32_8, shl_u32_8, shr_u32_16, shl_u32_16, shr_u32_24, shl_u32_24, shr_u64_4, shl_u64_4, shr_u64_8, shl_u64_8, shr_u64_16, shl_u64_16, shr_u64_24, shl_u64_24, shr_u64_40, shl_u64_40, shr_i64_4, shl_i64_4, shr_i64_8, shl_i64_8, shr_i64_16, shl_i64_16, shr_i64_24, shl_i64_24, shr_i64_40, shl_i64_40]; omega)
    | ((with_reducible refine Arith.u64 ?_ ?_); simp (discharger := omega) only [Int.tdiv_eq_ediv_of_nonneg, shr_u8_4, shl_u8_4, shr_u16_4, shl_u16_4, shr_u16_8, shl_u16_8, shr_u32_4, shl_u32_4, shr_u32_8, shl_u32_8, shr_u32_16, shl_u32_16, shr_u32_24, shl_u32_24, shr_u64_4, shl_u64_4, shr_u64_8, shl_u64_8, shr_u64_16, shl_u64_16, shr_u64_24, shl_u64_24, shr_u64_40, shl_u64_40, shr_i64_4, shl_i64_4, shr_i64_8, shl_i64_8, shr_i64_16, shl_i64_16, shr_i64_24, shl_i64_24, shr_i64_40, shl_i64_40]; omega)
    | ((with_reducible refine Arith.u32 ?_ ?_); simp (discharger := omega) only [Int.tdiv_eq_ediv_of_nonneg, shr_u8_4, shl_u8_4, shr_u16_4, shl_u16_4, shr_u16_8, shl_u16_8, shr_u32_4, shl_u32_4, shr_u32_8, shl_u32_8, shr_u32_16, shl_u32_16, shr_u32_24, shl_u32_24, shr_u64_4, shl_u64_4, shr_u64_8, shl_u64_8, shr_u64_16, shl_u64_16, shr_u64_24, shl_u64_24, shr_u64_40, shl_u64_40, shr_i64_4, shl_i64_4, shr_i64_8, shl_i64_8, shr_i64_16, shl_i64_16, shr_i64_24, shl_i64_24, shr_i64_40, shl_i64_40]; omega)
    | ((with_reducible refine Arith.u16 ?_ ?_); simp (discharger := omega) only [Int.tdiv_eq_ediv_of_nonneg, shr_u8_4, shl_u8_4, shr_u16_4, shl_u16_4, shr_u16_8, shl_u16_8, shr_u32_4, shl_u32_4, shr_u32_8, shl_u32_8, shr_u32_16, shl_u32_16, shr_u32_24, shl_u32_24, shr_u64_4, shl_u64_4, shr_u64_8, shl_u64_8, shr_u64_16, shl_u64_16, shr_u64_24, shl_u64_24, shr_u64_40, shl_u64_40, shr_i64_4, shl_i64_4, shr_i64_8, shl_i64_8, shr_i64_16, shl_i64_16, shr_i64_24, shl_i64_24, shr_i64_40, shl_i64_40]; omega)
    | ((with_reducible refine Arith.u8 ?_ ?_); simp (discharger := omega) only [Int.tdiv_eq_ediv_of_nonneg, shr_u8_4, shl_u8_4, shr_u16_4, shl_u16_4, shr_u16_8, shl_u16_8, shr_u32_4, shl_u32_4, shr_u32_8, shl_u32_8, shr_u32_16, shl_u32_16, shr_u32_24, shl_u32_24, shr_u64_4, shl_u64_4, shr_u64_8, shl_u64_8, shr_u64_16, shl_u64_16, shr_u64_24, shl_u64_24, shr_u64_40, shl_u64_40, shr_i64_4, shl_i64_4, shr_i64_8, shl_i64_8, shr_i64_16, shl_i64_16, shr_i64_24, shl_i64_24, shr_i64_40, shl_i64_40]; omega)
    | (with_reducible refine Arith.m8 ?_)
    | (with_reducible refine Arith.mk ?_)
    | (with_reducible refine Ends.mk ?_))
  all_goals (refine ⟨?_, rfl⟩; unfold kindA; (repeat (first | rw [if_pos (by omega)] | rw [if_neg (by omega)])); done)
set_option maxHeartbeats 1000000 in
theorem rkind_det (ip : Int) (h : 0 ≤ ip ∧ ip ≤ 4294967295) : Det G Tryd.prog 22 [.o (.int .u32 ip)] [] (vI .u8 (kindA ip)) [] := by
  refine can_of_W known mix Tryd.func22 (by kernel_rfl) ok_ref06_Kind (Nat.le_of_ble_eq_true rfl) ?_
  repeat' ((conv => whnf); first
    | ((with_reducible refine Look.mk ?_); refine ⟨_, rfl, ?_⟩)
    | ((with_reducible refine LookN.zeros ?_))
    | ((with_reducible refine LookN.bytes ?_ ?_); (simp; done))
    | ((with_reducible refine BytesW.bytes ?_))
    | ((with_reducible refine Look.byte ?_ ?_); omega)
    | ((with_reducible refine Look.setb ?_ ?_ ?_); exact bv8_bd _; omega)
    | ((with_reducible refine LookN.setb ?_ ?_ ?_); exact bv8_bd _; omega)
    | ((with_reducible refine LookN.mk ?_); refine ⟨_, rfl, ?_⟩)
    | ((with_reducible refine Need.mk ?_ ?_); first | ((with_reducible refine needB ?_); kernel_rfl) | with_reducible rfl | omega | (with_reducible refine ⟨rfl, ?_⟩; focus omega) | (simp only [ByteArray.size_append, size_lit, List.size_toArray, List.length_cons, List.length_nil, Sp.ofB_size, ByteArray.size_extract]; omega) | exact rfl | trivial | exact Nat.le_of_ble_eq_true rfl | (exact ⟨rfl, by omega⟩) | (intro h; first | rfl | cases h) | (simp only [lenS_text, lenS_setN, lenS_zeros]; omega))
    | ((with_reducible refine BytesW.mk ?_); refine ⟨_, rfl, ?_⟩)
    | ((with_reducible refine Test.tmodEqT ?_ ?_ ?_); omega; focus first | omega | assumption)
    | ((with_reducible refine Test.tmodEqF ?_ ?_ ?_); omega; focus first | omega | assumption)
    | ((with_reducible refine Test.tmodNeT ?_ ?_ ?_); omega; focus first | omega | assumption)
    | ((with_reducible refine Test.tmodNeF ?_ ?_ ?_); omega; focus first | omega | assumption)
    | ((with_reducible refine Test.tmodEq ?_ (fun h => ?_) (fun h => ?_)); omega)
    | ((with_reducible refine Test.tmodNe ?_ (fun h => ?_) (fun h => ?_)); omega)
    | (with_reducible refine Test.shru8_4 (fun h => ?_) (fun h => ?_))
    | (with_reducible refine Test.shreu8_4 (fun h => ?_) (fun h => ?_))
    | (with_reducible refine Test.shreu32_24 (fun h => ?_) (fun h => ?_))
    | (with_reducible refine Test.shrgeu32_24 (fun h => ?_) (fun h => ?_))
    | ((with_reducible refine Test.notT ?_ ?_); focus assumption)
    | ((with_reducible refine Test.notF ?_ ?_); focus assumption)
    | (with_reducible refine Test.notIe (fun h => ?_) (fun h => ?_))
    | (with_reducible refine Test.notD (fun h => ?_) (fun h => ?_))
    | ((with_reducible refine Test.empty (fun h => ?_) (fun h => ?_)))
    | (with_reducible refine Test.tt ?_)
    | (with_reducible refine Test.ff ?_)
    | ((with_reducible refine Test.dt ?_ ?_); omega)
    | ((with_reducible refine Test.df ?_ ?_); omega)
    | (with_reducible refine Test.d (fun h => ?_) (fun h => ?_))
    | ((with_reducible refine Test.ieT ?_ ?_); omega)
    | ((with_reducible refine Test.ieF ?_ ?_); omega)
    | ((with_reducible refine Test.neT ?_ ?_); omega)
    | ((with_reducible refine Test.neF ?_ ?_); omega)
    | (with_reducible refine Test.ie (fun h => ?_) (fun h => ?_))
    | (with_reducible refine Test.ne (fun h => ?_) (fun h => ?_))
    | ((with_reducible refine Test.b ?_ ?_); (focus first | assumption | (simp [negB]; done) | exact rfl))
    | ((with_reducible refine Test.nb ?_ ?_); (focus first | assumption | (simp [negB]; done) | exact rfl))
    | (with_reducible refine Test.notS (fun h => ?_) (fun h => ?_))
    | (with_reducible refine Test.mk (fun h => ?_) (fun h => ?_))
    | (with_reducible refine Arith.nsu32_24 ?_)
    | (with_reducible refine Arith.nsu32_16 ?_)
    | (with_reducible refine Arith.nsu32_8 ?_)
    | ((with_reducible refine Arith.tdiv ?_ ?_); omega)
    | (with_reducible refine Arith.bv8 ?_)
    | (with_reducible refine Arith.bv16 ?_)
    | (with_reducible refine Arith.bv32 ?_)
    | (with_reducible refine Arith.bv64 ?_)
    | ((with_reducible refine Arith.i64 ?_ ?_); omega)
    | ((with_reducible refine Arith.u64 ?_ ?_); omega)
    | ((with_reducible refine Arith.u32 ?_ ?_); omega)
    | ((with_reducible refine Arith.u16 ?_ ?_); omega)
    | ((with_reducible refine Arith.u8 ?_ ?_); omega)
    | ((with_reducible refine Arith.i32 ?_ ?_); omega)
    | ((with_reducible refine Arith.i64 ?_ ?_); simp (discharger := omega) only [Int.tdiv_eq_ediv_of_nonneg, shr_u8_4, shl_u8_4, shr_u16_4, shl_u16_4, shr_u16_8, shl_u16_8, shr_u32_4, shl_u32_4, shr_u32_8, shl_u32_8, shr_u32_16, shl_u32_16, shr_u32_24, shl_u32_24, shr_u64_4, shl_u64_4, shr_u64_8, shl_u64_8, shr_u64_16, shl_u64_16, shr_u64_24, shl_u64_24, shr_u64_40, shl_u64_40, shr_i64_4, shl_i64_4, shr_i64_8, shl_i64_8, shr_i64_16, shl_i64_16, shr_i64_24, shl_i64_24, shr_i64_40, shl_i64_40]; omega)
    | ((with_reducible refine Arith.u64 ?_ ?_); simp (discharger := omega) only [Int.tdiv_eq_ediv_of_nonneg, shr_u8_4, shl_u8_4, shr_u16_4, shl_u16_4, shr_u16_8, shl_u16_8, shr_u32_4, shl_u32_4, shr_u32_8, shl_u32_8, shr_u32_16, shl_u32_16, shr_u32_24, shl_u32_24, shr_u64_4, shl_u64_4, shr_u64_8, shl_u64_8, shr_u64_16, shl_u64_16, shr_u64_24, shl_u64_24, shr_u64_40, shl_u64_40, shr_i64_4, shl_i64_4, shr_i64_8, shl_i64_8, shr_i64_16, shl_i64_16, shr_i64_24, shl_i64_24, shr_i64_40, shl_i64_40]; omega)
    | ((with_reducible refine Arith.u32 ?_ ?_); simp (discharger := omega) only [Int.tdiv_eq_ediv_of_nonneg, shr_u8_4, shl_u8_4, shr_u16_4, shl_u16_4, shr_u16_8, shl_u16_8, shr_u32_4, shl_u32_4, shr_u32_8, shl_u32_8, shr_u32_16, shl_u32_16, shr_u32_24, shl_u32_24, shr_u64_4, shl_u64_4, shr_u64_8, shl_u64_8, shr_u64_16, shl_u64_16, shr_u64_24, shl_u64_24, shr_u64_40, shl_u64_40, shr_i64_4, shl_i64_4, shr_i64_8, shl_i64_8, shr_i64_16, shl_i64_16, shr_i64_24, shl_i64_24, shr_i64_40, shl_i64_40]; omega)
    | ((with_reducible refine Arith.u16 ?_ ?_); simp (discharger := omega) only [Int.tdiv_eq_ediv_of_nonneg, shr_u8_4, shl_u8_4, shr_u16_4, shl_u16_4, shr_u16_8, shl_u16_8, shr_u32_4, shl_u32_4, shr_u32_8, shl_u32_8, shr_u32_16, shl_u32_16, shr_u32_24, shl_u32_24, shr_u64_4, shl_u64_4, shr_u64_8, shl_u64_8, shr_u64_16, shl_u64_16, shr_u64_24, shl_u64_24, shr_u64_40, shl_u64_40, shr_i64_4, shl_i64_4, shr_i64_8, shl_i64_8, shr_i64_16, shl_i64_16, shr_i64_24, shl_i64_24, shr_i64_40, shl_i64_40]; omega)
    | ((with_reducible refine Arith.u8 ?_ ?_); simp (discharger := omega) only [Int.tdiv_eq_ediv_of_nonneg, shr_u8_4, shl_u8_4, shr_u16_4, shl_u16_4, shr_u16_8, shl_u16_8, shr_u32_4, shl_u32_4, shr_u32_8, shl_u32_8, shr_u32_16, shl_u32_16, shr_u32_24, shl_u32_24, shr_u64_4, shl_u64_4, shr_u64_8, shl_u64_8, shr_u64_16, shl_u64_16, shr_u64_24, shl_u64_24, shr_u64_40, shl_u64_40, shr_i64_4, shl_i64_4, shr_i64_8, shl_i64_8, shr_i64_16, shl_i64_16, shr_i64_24, shl_i64_24, shr_i64_40, shl_i64_40]; omega)
    | (with_reducible refine Arith.m8 ?_)
    | (with_reducible refine Arith.mk ?_)
    | (with_reducible refine Ends.mk ?_))
  all_goals (refine ⟨?_, rfl⟩; unfold kindA; (repeat (first | rw [if_pos (by omega)] | rw [if_neg (by omega)])); done)
set_option maxHeartbeats 4000000 in
theorem num_det (n : Int) (h : 0 ≤ n ∧ n ≤ 255) : Det G Tryd.prog 54 [.o (.int .i64 n)] [] (vS (itoaB n)) [] := by
  refine can_of_W known mix Tryd.func54 (by kernel_rfl) ok_ref06_Num (Nat.le_of_ble_eq_true rfl) ?_
  repeat' ((conv => whnf); first
    | ((with_reducible refine Look.mk ?_); refine ⟨_, rfl, ?_⟩)
    | ((with_reducible refine LookN.zeros ?_))
    | ((with_reducible refine LookN.bytes ?_ ?_); (simp; done))
    | ((with_reducible refine BytesW.bytes ?_))
    | ((with_reducible refine Look.byte ?_ ?_); omega)
    | ((with_reducible refine Look.setb ?_ ?_ ?_); exact bv8_bd _; omega)
    | ((with_reducible refine LookN.setb ?_ ?_ ?_); exact bv8_bd _; omega)
    | ((with_reducible refine LookN.mk ?_); refine ⟨_, rfl, ?_⟩)
    | ((with_reducible refine Need.mk ?_ ?_); first | ((with_reducible refine needB ?_); kernel_rfl) | with_reducible rfl | omega | (with_reducible refine ⟨rfl, ?_⟩; focus omega) | (simp only [ByteArray.size_append, size_lit, List.size_toArray, List.length_cons, List.length_nil, Sp.ofB_size, ByteArray.size_extract]; omega) | exact rfl | trivial | exact Nat.le_of_ble_eq_true rfl | (exact ⟨rfl, by omega⟩) | (intro h; first | rfl | cases h) | (simp only [lenS_text, lenS_setN, lenS_zeros]; omega))
    | ((with_reducible refine BytesW.mk ?_); refine ⟨_, rfl, ?_⟩)
    | ((with_reducible refine Arith.tm10 ?_ ?_); omega)
    | (with_reducible refine Arith.bi ?_)
    | (with_reducible refine Arith.bu4 ?_)
    | (with_reducible refine LoopW.unroll (fun X hX => ?_))
    | (refine hX _ _ ?_)
    | ((with_reducible refine Test.tmodEqT ?_ ?_ ?_); omega; focus first | omega | assumption)
    | ((with_reducible refine Test.tmodEqF ?_ ?_ ?_); omega; focus first | omega | assumption)
    | ((with_reducible refine Test.tmodNeT ?_ ?_ ?_); omega; focus first | omega | assumption)
    | ((with_reducible refine Test.tmodNeF ?_ ?_ ?_); omega; focus first | omega | assumption)
    | ((with_reducible refine Test.tmodEq ?_ (fun h => ?_) (fun h => ?_)); omega)
    | ((with_reducible refine Test.tmodNe ?_ (fun h => ?_) (fun h => ?_)); omega)
    | (with_reducible refine Test.shru8_4 (fun h => ?_) (fun h => ?_))
    | (with_reducible refine Test.shreu8_4 (fun h => ?_) (fun h => ?_))
    | (with_reducible refine Test.shreu32_24 (fun h => ?_) (fun h => ?_))
    | (with_reducible refine Test.shrgeu32_24 (fun h => ?_) (fun h => ?_))
    | ((with_reducible refine Test.notT ?_ ?_); focus assumption)
    | ((with_reducible refine Test.notF ?_ ?_); focus assumption)
    | (with_reducible refine Test.notIe (fun h => ?_) (fun h => ?_))
    | (with_reducible refine Test.notD (fun h => ?_) (fun h => ?_))
    | ((with_reducible refine Test.empty (fun h => ?_) (fun h => ?_)))
    | (with_reducible refine Test.tt ?_)
    | (with_reducible refine Test.ff ?_)
    | ((with_reducible refine Test.dt ?_ ?_); omega)
    | ((with_reducible refine Test.df ?_ ?_); omega)
    | (with_reducible refine Test.d (fun h => ?_) (fun h => ?_))
    | ((with_reducible refine Test.ieT ?_ ?_); omega)
    | ((with_reducible refine Test.ieF ?_ ?_); omega)
    | ((with_reducible refine Test.neT ?_ ?_); omega)
    | ((with_reducible refine Test.neF ?_ ?_); omega)
    | (with_reducible refine Test.ie (fun h => ?_) (fun h => ?_))
    | (with_reducible refine Test.ne (fun h => ?_) (fun h => ?_))
    | ((with_reducible refine Test.b ?_ ?_); (focus first | assumption | (simp [negB]; done) | exact rfl))
    | ((with_reducible refine Test.nb ?_ ?_); (focus first | assumption | (simp [negB]; done) | exact rfl))
    | (with_reducible refine Test.notS (fun h => ?_) (fun h => ?_))
    | (with_reducible refine Test.mk (fun h => ?_) (fun h => ?_))
    | (with_reducible refine Arith.nsu32_24 ?_)
    | (with_reducible refine Arith.nsu32_16 ?_)
    | (with_reducible refine Arith.nsu32_8 ?_)
    | ((with_reducible refine Arith.tdiv ?_ ?_); omega)
    | (with_reducible refine Arith.bv8 ?_)
    | (with_reducible refine Arith.bv16 ?_)
    | (with_reducible refine Arith.bv32 ?_)
    | (with_reducible refine Arith.bv64 ?_)
    | ((with_reducible refine Arith.i64 ?_ ?_); omega)
    | ((with_reducible refine Arith.u64 ?_ ?_); omega)
    | ((with_reducible refine Arith.u32 ?_ ?_); omega)
    | ((with_reducible refine Arith.u16 ?_ ?_); omega)
    | ((with_reducible refine Arith.u8 ?_ ?_); omega)
    | ((with_reducible refine Arith.i32 ?_ ?_); omega)
    | ((with_reducible refine Arith.i64 ?_ ?_); simp (discharger := omega) only [Int.tdiv_eq_ediv_of_nonneg, shr_u8_4, shl_u8_4, shr_u16_4, shl_u16_4, shr_u16_8, shl_u16_8, shr_u32_4, shl_u32_4, shr_u32_8, shl_u32_8, shr_u32_16, shl_u32_16, shr_u32_24, shl_u32_24, shr_u64_4, shl_u64_4, shr_u64_8, shl_u64_8, shr_u64_16, shl_u64_16, shr_u64_24, shl_u64_24, shr_u64_40, shl_u64_40, shr_i64_4, shl_i64_4, shr_i64_8, shl_i64_8, shr_i64_16, shl_i64_16, shr_i64_24, shl_i64_24, shr_i64_40, shl_i64_40]; omega)
    | ((with_reducible refine Arith.u64 ?_ ?_); simp (discharger := omega) only [Int.tdiv_eq_ediv_of_nonneg, shr_u8_4, shl_u8_4, shr_u16_4, shl_u16_4, shr_u16_8, shl_u16_8, shr_u32_4, shl_u32_4, shr_u32_8, shl_u32_8, shr_u32_16, shl_u32_16, shr_u32_24, shl_u32_24, shr_u64_4, shl_u64_4, shr_u64_8, shl_u64_8, shr_u64_16, shl_u64_16, shr_u64_24, shl_u64_24, shr_u64_40, shl_u64_40, shr_i64_4, shl_i64_4, shr_i64_8, shl_i64_8, shr_i64_16, shl_i64_16, shr_i64_24, shl_i64_24, shr_i64_40, shl_i64_40]; omega)
    | ((with_reducible refine Arith.u32 ?_ ?_); simp (discharger := omega) only [Int.tdiv_eq_ediv_of_nonneg, shr_u8_4, shl_u8_4, shr_u16_4, shl_u16_4, shr_u16_8, shl_u16_8, shr_u32_4, shl_u32_4, shr_u32_8, shl_u32_8, shr_u32_16, shl_u32_16, shr_u32_24, shl_u32_24, shr_u64_4, shl_u64_4, shr_u64_8, shl_u64_8, shr_u64_16, shl_u64_16, shr_u64_24, shl_u64_24, shr_u64_40, shl_u64_40, shr_i64_4, shl_i64_4, shr_i64_8, shl_i64_8, shr_i64_16, shl_i64_16, shr_i64_24, shl_i64_24, shr_i64_40, shl_i64_40]; omega)
    | ((with_reducible refine Arith.u16 ?_ ?_); simp (discharger := omega) only [Int.tdiv_eq_ediv_of_nonneg, shr_u8_4, shl_u8_4, shr_u16_4, shl_u16_4, shr_u16_8, shl_u16_8, shr_u32_4, shl_u32_4, shr_u32_8, shl_u32_8, shr_u32_16, shl_u32_16, shr_u32_24, shl_u32_24, shr_u64_4, shl_u64_4, shr_u64_8, shl_u64_8, shr_u64_16, shl_u64_16, shr_u64_24, shl_u64_24, shr_u64_40, shl_u64_40, shr_i64_4, shl_i64_4, shr_i64_8, shl_i64_8, shr_i64_16, shl_i64_16, shr_i64_24, shl_i64_24, shr_i64_40, shl_i64_40]; omega)
    | ((with_reducible refine Arith.u8 ?_ ?_); simp (discharger := omega) only [Int.tdiv_eq_ediv_of_nonneg, shr_u8_4, shl_u8_4, shr_u16_4, shl_u16_4, shr_u16_8, shl_u16_8, shr_u32_4, shl_u32_4, shr_u32_8, shl_u32_8, shr_u32_16, shl_u32_16, shr_u32_24, shl_u32_24, shr_u64_4, shl_u64_4, shr_u64_8, shl_u64_8, shr_u64_16, shl_u64_16, shr_u64_24, shl_u64_24, shr_u64_40, shl_u64_40, shr_i64_4, shl_i64_4, shr_i64_8, shl_i64_8, shr_i64_16, shl_i64_16, shr_i64_24, shl_i64_24, shr_i64_40, shl_i64_40]; omega)
    | (with_reducible refine Arith.m8 ?_)
    | (with_reducible refine Arith.mk ?_)
    | (with_reducible refine Ends.mk ?_))
  all_goals refine ⟨?_, rfl⟩
  all_goals first
    | (rw [itoa1 (by omega)]; rfl)
    | (rw [itoa2 (by omega)]; simp only [ba_nil]; done)
    | (rw [itoa3 (by omega)]; simp only [ba_nil]; done)
set_option maxHeartbeats 4000000 in
theorem text_det (hG : Tabs G) (ip : Int) (h : 0 ≤ ip ∧ ip ≤ 4294967295) : Det G Tryd.prog 19 [.o (.int .u32 ip)] [] (vS (textB ip)) [] := by
  have s0 := itoa_size (n := ip / 16777216) (by omega)
  have s1 := itoa_size (n := ip / 65536 % 256) (by omega)
  have s2 := itoa_size (n := ip / 256 % 256) (by omega)
  have s3 := itoa_size (n := ip % 256) (by omega)
  refine can_of_W known mix Tryd.func19 (by kernel_rfl) ok_addr_Text (Nat.le_of_ble_eq_true rfl) ?_
  repeat' ((conv => whnf); first
    | ((with_reducible refine Look.mk ?_); refine ⟨_, rfl, ?_⟩)
    | ((with_reducible refine LookN.zeros ?_))
    | ((with_reducible refine LookN.bytes ?_ ?_); (simp; done))
    | ((with_reducible refine BytesW.bytes ?_))
    | ((with_reducible refine Look.byte ?_ ?_); omega)
    | ((with_reducible refine Look.setb ?_ ?_ ?_); exact bv8_bd _; omega)
    | ((with_reducible refine LookN.setb ?_ ?_ ?_); exact bv8_bd _; omega)
    | ((with_reducible refine LookN.mk ?_); refine ⟨_, rfl, ?_⟩)
    | ((with_reducible refine Need.mk ?_ ?_); first | ((with_reducible refine needB ?_); kernel_rfl) | with_reducible rfl | omega | (with_reducible refine ⟨rfl, ?_⟩; focus omega) | (simp only [ByteArray.size_append, size_lit, List.size_toArray, List.length_cons, List.length_nil, Sp.ofB_size, ByteArray.size_extract]; omega) | exact rfl | trivial | exact Nat.le_of_ble_eq_true rfl | (exact ⟨rfl, by omega⟩) | (intro h; first | rfl | cases h) | (simp only [lenS_text, lenS_setN, lenS_zeros]; omega))
    | ((with_reducible refine BytesW.mk ?_); refine ⟨_, rfl, ?_⟩)
    | (with_reducible refine CallW.det (itoa_det hG _ (by omega)) ?_)
    | (with_reducible refine CallW.det (join4_det _ _ _ _ _ _ _ (by omega)) ?_)
    | ((with_reducible refine Arith.tm10 ?_ ?_); omega)
    | (with_reducible refine Arith.bi ?_)
    | (with_reducible refine Arith.bu4 ?_)
    | (with_reducible refine LoopW.unroll (fun X hX => ?_))
    | (refine hX _ _ ?_)
    | (with_reducible refine CallW.can (can_of_W known mix Tryd.func50 (by kernel_rfl) ok_addr_parts (Nat.le_of_ble_eq_true rfl) ?_) (fun _ _ h => h))
    | ((with_reducible refine Test.tmodEqT ?_ ?_ ?_); omega; focus first | omega | assumption)
    | ((with_reducible refine Test.tmodEqF ?_ ?_ ?_); omega; focus first | omega | assumption)
    | ((with_reducible refine Test.tmodNeT ?_ ?_ ?_); omega; focus first | omega | assumption)
    | ((with_reducible refine Test.tmodNeF ?_ ?_ ?_); omega; focus first | omega | assumption)
    | ((with_reducible refine Test.tmodEq ?_ (fun h => ?_) (fun h => ?_)); omega)
    | ((with_reducible refine Test.tmodNe ?_ (fun h => ?_) (fun h => ?_)); omega)
    | (with_reducible refine Test.shru8_4 (fun h => ?_) (fun h => ?_))
    | (with_reducible refine Test.shreu8_4 (fun h => ?_) (fun h => ?_))
    | (with_reducible refine Test.shreu32_24 (fun h => ?_) (fun h => ?_))
    | (with_reducible refine Test.shrgeu32_24 (fun h => ?_) (fun h => ?_))
    | ((with_reducible refine Test.notT ?_ ?_); focus assumption)
    | ((with_reducible refine Test.notF ?_ ?_); focus assumption)
    | (with_reducible refine Test.notIe (fun h => ?_) (fun h => ?_))
    | (with_reducible refine Test.notD (fun h => ?_) (fun h => ?_))
    | ((with_reducible refine Test.empty (fun h => ?_) (fun h => ?_)))
    | (with_reducible refine Test.tt ?_)
    | (with_reducible refine Test.ff ?_)
    | ((with_reducible refine Test.dt ?_ ?_); omega)
    | ((with_reducible refine Test.df ?_ ?_); omega)
    | (with_reducible refine Test.d (fun h => ?_) (fun h => ?_))
    | ((with_reducible refine Test.ieT ?_ ?_); omega)
    | ((with_reducible refine Test.ieF ?_ ?_); omega)
    | ((with_reducible refine Test.neT ?_ ?_); omega)
    | ((with_reducible refine Test.neF ?_ ?_); omega)
    | (with_reducible refine Test.ie (fun h => ?_) (fun h => ?_))
    | (with_reducible refine Test.ne (fun h => ?_) (fun h => ?_))
    | ((with_reducible refine Test.b ?_ ?_); (focus first | assumption | (simp [negB]; done) | exact rfl))
    | ((with_reducible refine Test.nb ?_ ?_); (focus first | assumption | (simp [negB]; done) | exact rfl))
    | (with_reducible refine Test.notS (fun h => ?_) (fun h => ?_))
    | (with_reducible refine Test.mk (fun h => ?_) (fun h => ?_))
    | (with_reducible refine Arith.nsu32_24 ?_)
    | (with_reducible refine Arith.nsu32_16 ?_)
    | (with_reducible refine Arith.nsu32_8 ?_)
    | ((with_reducible refine Arith.tdiv ?_ ?_); omega)
    | (with_reducible refine Arith.bv8 ?_)
    | (with_reducible refine Arith.bv16 ?_)
    | (with_reducible refine Arith.bv32 ?_)
    | (with_reducible refine Arith.bv64 ?_)
    | ((with_reducible refine Arith.i64 ?_ ?_); omega)
    | ((with_reducible refine Arith.u64 ?_ ?_); omega)
    | ((with_reducible refine Arith.u32 ?_ ?_); omega)
    | ((with_reducible refine Arith.u16 ?_ ?_); omega)
    | ((with_reducible refine Arith.u8 ?_ ?_); omega)
    | ((with_reducible refine Arith.i32 ?_ ?_); omega)
    | ((with_reducible refine Arith.i64 ?_ ?_); simp (discharger := omega) only [Int.tdiv_eq_ediv_of_nonneg, shr_u8_4, shl_u8_4, shr_u16_4, shl_u16_4, shr_u16_8, shl_u16_8, shr_u32_4, shl_u32_4, shr_u32_8, shl_u32_8, shr_u32_16, shl_u32_16, shr_u32_24, shl_u32_24, shr_u64_4, shl_u64_4, shr_u64_8, shl_u64_8, shr_u64_16, shl_u64_16, shr_u64_24, shl_u64_24, shr_u64_40, shl_u64_40, shr_i64_4, shl_i64_4, shr_i64_8, shl_i64_8, shr_i64_16, shl_i64_16, shr_i64_24, shl_i64_24, shr_i64_40, shl_i64_40]; omega)
    | ((with_reducible refine Arith.u64 ?_ ?_); simp (discharger := omega) only [Int.tdiv_eq_ediv_of_nonneg, shr_u8_4, shl_u8_4, shr_u16_4, shl_u16_4, shr_u16_8, shl_u16_8, shr_u32_4, shl_u32_4, shr_u32_8, shl_u32_8, shr_u32_16, shl_u32_16, shr_u32_24, shl_u32_24, shr_u64_4, shl_u64_4, shr_u64_8, shl_u64_8, shr_u64_16, shl_u64_16, shr_u64_24, shl_u64_24, shr_u64_40, shl_u64_40, shr_i64_4, shl_i64_4, shr_i64_8, shl_i64_8, shr_i64_16, shl_i64_16, shr_i64_24, shl_i64_24, shr_i64_40, shl_i64_40]; omega)
    | ((with_reducible refine Arith.u32 ?_ ?_); simp (discharger := omega) only [Int.tdiv_eq_ediv_of_nonneg, shr_u8_4, shl_u8_4, shr_u16_4, shl_u16_4, shr_u16_8, shl_u16_8, shr_u32_4, shl_u32_4, shr_u32_8, shl_u32_8, shr_u32_16, shl_u32_16, shr_u32_24, shl_u32_24, shr_u64_4, shl_u64_4, shr_u64_8, shl_u64_8, shr_u64_16, shl_u64_16, shr_u64_24, shl_u64_24, shr_u64_40, shl_u64_40, shr_i64_4, shl_i64_4, shr_i64_8, shl_i64_8, shr_i64_16, shl_i64_16, shr_i64_24, shl_i64_24, shr_i64_40, shl_i64_40]; omega)
    | ((with_reducible refine Arith.u16 ?_ ?_); simp (discharger := omega) only [Int.tdiv_eq_ediv_of_nonneg, shr_u8_4, shl_u8_4, shr_u16_4, shl_u16_4, shr_u16_8, shl_u16_8, shr_u32_4, shl_u32_4, shr_u32_8, shl_u32_8, shr_u32_16, shl_u32_16, shr_u32_24, shl_u32_24, shr_u64_4, shl_u64_4, shr_u64_8, shl_u64_8, shr_u64_16, shl_u64_16, shr_u64_24, shl_u64_24, shr_u64_40, shl_u64_40, shr_i64_4, shl_i64_4, shr_i64_8, shl_i64_8, shr_i64_16, shl_i64_16, shr_i64_24, shl_i64_24, shr_i64_40, shl_i64_40]; omega)
    | ((with_reducible refine Arith.u8 ?_ ?_); simp (discharger := omega) only [Int.tdiv_eq_ediv_of_nonneg, shr_u8_4, shl_u8_4, shr_u16_4, shl_u16_4, shr_u16_8, shl_u16_8, shr_u32_4, shl_u32_4, shr_u32_8, shl_u32_8, shr_u32_16, shl_u32_16, shr_u32_24, shl_u32_24, shr_u64_4, shl_u64_4, shr_u64_8, shl_u64_8, shr_u64_16, shl_u64_16, shr_u64_24, shl_u64_24, shr_u64_40, shl_u64_40, shr_i64_4, shl_i64_4, shr_i64_8, shl_i64_8, shr_i64_16, shl_i64_16, shr_i64_24, shl_i64_24, shr_i64_40, shl_i64_40]; omega)
    | (with_reducible refine Arith.m8 ?_)
    | (with_reducible refine Arith.mk ?_)
    | (with_reducible refine Ends.mk ?_))
  all_goals first | exact ⟨rfl, rfl⟩
set_option maxHeartbeats 4000000 in
theorem rtext_det (ip : Int) (h : 0 ≤ ip ∧ ip ≤ 4294967295) : Det G Tryd.prog 20 [.o (.int .u32 ip)] [] (vS (textB ip)) [] := by
  have s0 := itoa_size (bAt_bd (Sp.ofB ip 4) (Int.toNat 0))
  have s1 := itoa_size (bAt_bd (Sp.ofB ip 4) (Int.toNat 1))
  have s2 := itoa_size (bAt_bd (Sp.ofB ip 4) (Int.toNat 2))
  have s3 := itoa_size (bAt_bd (Sp.ofB ip 4) (Int.toNat 3))
  refine can_of_W known mix Tryd.func20 (by kernel_rfl) ok_ref06_Text (Nat.le_of_ble_eq_true rfl) ?_
  repeat' ((conv => whnf); first
    | ((with_reducible refine Look.mk ?_); refine ⟨_, rfl, ?_⟩)
    | ((with_reducible refine LookN.zeros ?_))
    | ((with_reducible refine LookN.bytes ?_ ?_); (simp; done))
    | ((with_reducible refine BytesW.bytes ?_))
    | ((with_reducible refine Look.byte ?_ ?_); omega)
    | ((with_reducible refine Look.setb ?_ ?_ ?_); exact bv8_bd _; omega)
    | ((with_reducible refine LookN.setb ?_ ?_ ?_); exact bv8_bd _; omega)
    | ((with_reducible refine LookN.mk ?_); refine ⟨_, rfl, ?_⟩)
    | ((with_reducible refine Need.mk ?_ ?_); first | ((with_reducible refine needB ?_); kernel_rfl) | with_reducible rfl | omega | (with_reducible refine ⟨rfl, ?_⟩; focus omega) | (simp only [ByteArray.size_append, size_lit, List.size_toArray, List.length_cons, List.length_nil, Sp.ofB_size, ByteArray.size_extract]; omega) | exact rfl | trivial | exact Nat.le_of_ble_eq_true rfl | (exact ⟨rfl, by omega⟩) | (intro h; first | rfl | cases h) | (simp only [lenS_text, lenS_setN, lenS_zeros]; omega))
    | ((with_reducible refine BytesW.mk ?_); refine ⟨_, rfl, ?_⟩)
    | (with_reducible refine CallW.det (rOf4 _ (by omega)) ?_)
    | (with_reducible refine CallW.det (num_det _ (by first | omega | exact bAt_bd _ _)) ?_)
    | ((with_reducible refine Arith.tm10 ?_ ?_); omega)
    | (with_reducible refine Arith.bi ?_)
    | (with_reducible refine Arith.bu4 ?_)
    | ((with_reducible refine Test.tmodEqT ?_ ?_ ?_); omega; focus first | omega | assumption)
    | ((with_reducible refine Test.tmodEqF ?_ ?_ ?_); omega; focus first | omega | assumption)
    | ((with_reducible refine Test.tmodNeT ?_ ?_ ?_); omega; focus first | omega | assumption)
    | ((with_reducible refine Test.tmodNeF ?_ ?_ ?_); omega; focus first | omega | assumption)
    | ((with_reducible refine Test.tmodEq ?_ (fun h => ?_) (fun h => ?_)); omega)
    | ((with_reducible refine Test.tmodNe ?_ (fun h => ?_) (fun h => ?_)); omega)
    | (with_reducible refine Test.shru8_4 (fun h => ?_) (fun h => ?_))
    | (with_reducible refine Test.shreu8_4 (fun h => ?_) (fun h => ?_))
    | (with_reducible refine Test.shreu32_24 (fun h => ?_) (fun h => ?_))
    | (with_reducible refine Test.shrgeu32_24 (fun h => ?_) (fun h => ?_))
    | ((with_reducible refine Test.notT ?_ ?_); focus assumption)
    | ((with_reducible refine Test.notF ?_ ?_); focus assumption)
    | (with_reducible refine Test.notIe (fun h => ?_) (fun h => ?_))
    | (with_reducible refine Test.notD (fun h => ?_) (fun h => ?_))
    | ((with_reducible refine Test.empty (fun h => ?_) (fun h => ?_)))
    | (with_reducible refine Test.tt ?_)
    | (with_reducible refine Test.ff ?_)
    | ((with_reducible refine Test.dt ?_ ?_); omega)
    | ((with_reducible refine Test.df ?_ ?_); omega)
    | (with_reducible refine Test.d (fun h => ?_) (fun h => ?_))
    | ((with_reducible refine Test.ieT ?_ ?_); omega)
    | ((with_reducible refine Test.ieF ?_ ?_); omega)
    | ((with_reducible refine Test.neT ?_ ?_); omega)
    | ((with_reducible refine Test.neF ?_ ?_); omega)
    | (with_reducible refine Test.ie (fun h => ?_) (fun h => ?_))
    | (with_reducible refine Test.ne (fun h => ?_) (fun h => ?_))
    | ((with_reducible refine Test.b ?_ ?_); (focus first | assumption | (simp [negB]; done) | exact rfl))
    | ((with_reducible refine Test.nb ?_ ?_); (focus first | assumption | (simp [negB]; done) | exact rfl))
    | (with_reducible refine Test.notS (fun h => ?_) (fun h => ?_))
    | (with_reducible refine Test.mk (fun h => ?_) (fun h => ?_))
    | (with_reducible refine Arith.nsu32_24 ?_)
    | (with_reducible refine Arith.nsu32_16 ?_)
    | (with_reducible refine Arith.nsu32_8 ?_)
    | ((with_reducible refine Arith.tdiv ?_ ?_); omega)
    | (with_reducible refine Arith.bv8 ?_)
    | (with_reducible refine Arith.bv16 ?_)
    | (with_reducible refine Arith.bv32 ?_)
    | (with_reducible refine Arith.bv64 ?_)
    | ((with_reducible refine Arith.i64 ?_ ?_); omega)
    | ((with_reducible refine Arith.u64 ?_ ?_); omega)
    | ((with_reducible refine Arith.u32 ?_ ?_); omega)
    | ((with_reducible refine Arith.u16 ?_ ?_); omega)
    | ((with_reducible refine Arith.u8 ?_ ?_); omega)
    | ((with_reducible refine Arith.i32 ?_ ?_); omega)
    | ((with_reducible refine Arith.i64 ?_ ?_); simp (discharger := omega) only [Int.tdiv_eq_ediv_of_nonneg, shr_u8_4, shl_u8_4, shr_u16_4, shl_u16_4, shr_u16_8, shl_u16_8, shr_u32_4, shl_u32_4, shr_u32_8, shl_u32_8, shr_u32_16, shl_u32_16, shr_u32_24, shl_u32_24, shr_u64_4, shl_u64_4, shr_u64_8, shl_u64_8, shr_u64_16, shl_u64_16, shr_u64_24, shl_u64_24, shr_u64_40, shl_u64_40, shr_i64_4, shl_i64_4, shr_i64_8, shl_i64_8, shr_i64_16, shl_i64_16, shr_i64_24, shl_i64_24, shr_i64_40, shl_i64_40]; omega)
    | ((with_reducible refine Arith.u64 ?_ ?_); simp (discharger := omega) only [Int.tdiv_eq_ediv_of_nonneg, shr_u8_4, shl_u8_4, shr_u16_4, shl_u16_4, shr_u16_8, shl_u16_8, shr_u32_4, shl_u32_4, shr_u32_8, shl_u32_8, shr_u32_16, shl_u32_16, shr_u32_24, shl_u32_24, shr_u64_4, shl_u64_4, shr_u64_8, shl_u64_8, shr_u64_16, shl_u64_16, shr_u64_24, shl_u64_24, shr_u64_40, shl_u64_40, shr_i64_4, shl_i64_4, shr_i64_8, shl_i64_8, shr_i64_16, shl_i64_16, shr_i64_24, shl_i64_24, shr_i64_40, shl_i64_40]; omega)
    | ((with_reducible refine Arith.u32 ?_ ?_); simp (discharger := omega) only [Int.tdiv_eq_ediv_of_nonneg, shr_u8_4, shl_u8_4, shr_u16_4, shl_u16_4, shr_u16_8, shl_u16_8, shr_u32_4, shl_u32_4, shr_u32_8, shl_u32_8, shr_u32_16, shl_u32_16, shr_u32_24, shl_u32_24, shr_u64_4, shl_u64_4, shr_u64_8, shl_u64_8, shr_u64_16, shl_u64_16, shr_u64_24, shl_u64_24, shr_u64_40, shl_u64_40, shr_i64_4, shl_i64_4, shr_i64_8, shl_i64_8, shr_i64_16, shl_i64_16, shr_i64_24, shl_i64_24, shr_i64_40, shl_i64_40]; omega)
    | ((with_reducible refine Arith.u16 ?_ ?_); simp (discharger := omega) only [Int.tdiv_eq_ediv_of_nonneg, shr_u8_4, shl_u8_4, shr_u16_4, shl_u16_4, shr_u16_8, shl_u16_8, shr_u32_4, shl_u32_4, shr_u32_8, shl_u32_8, shr_u32_16, shl_u32_16, shr_u32_24, shl_u32_24, shr_u64_4, shl_u64_4, shr_u64_8, shl_u64_8, shr_u64_16, shl_u64_16, shr_u64_24, shl_u64_24, shr_u64_40, shl_u64_40, shr_i64_4, shl_i64_4, shr_i64_8, shl_i64_8, shr_i64_16, shl_i64_16, shr_i64_24, shl_i64_24, shr_i64_40, shl_i64_40]; omega)
    | ((with_reducible refine Arith.u8 ?_ ?_); simp (discharger := omega) only [Int.tdiv_eq_ediv_of_nonneg, shr_u8_4, shl_u8_4, shr_u16_4, shl_u16_4, shr_u16_8, shl_u16_8, shr_u32_4, shl_u32_4, shr_u32_8, shl_u32_8, shr_u32_16, shl_u32_16, shr_u32_24, shl_u32_24, shr_u64_4, shl_u64_4, shr_u64_8, shl_u64_8, shr_u64_16, shl_u64_16, shr_u64_24, shl_u64_24, shr_u64_40, shl_u64_40, shr_i64_4, shl_i64_4, shr_i64_8, shl_i64_8, shr_i64_16, shl_i64_16, shr_i64_24, shl_i64_24, shr_i64_40, shl_i64_40]; omega)
    | (with_reducible refine Arith.m8 ?_)
    | (with_reducible refine Arith.mk ?_)
    | (with_reducible refine Ends.mk ?_))
  all_goals refine ⟨?_, rfl⟩
  all_goals first
    | (obtain ⟨e0, e1, e2, e3⟩ := bAt_of4 ip h; unfold textB; rw [join4, ← e0, ← e1, ← e2, ← e3]; rfl)
end G4
end Go.Proofs.YtnikpanebkknfaaDoor.VM
