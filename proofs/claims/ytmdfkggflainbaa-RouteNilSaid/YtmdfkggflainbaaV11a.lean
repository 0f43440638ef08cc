/- law 11 by the evaluator: what the document fixes. -/
import Derived.Test.YtmdfkggflainbaaBase
namespace Go.Proofs.Ytmdfkggflainbaa.VM
namespace G5
open Go.RowKit
set_option linter.unusedVariables false
set_option linter.unusedSimpArgs false
set_option maxRecDepth 100000
variable {G : Ground}
def vf_route_New : VFn := ⟨(.seq (.reg [
    ⟨(some 0), .mv (.c (.p (.o (.nilp)))), none, 0⟩] 0 none) (.seq (.reg [
    ⟨(some 1), .mkm false, none, 0⟩,
    ⟨(some 2), .bld [.nilm] [(0, 1, (.t 1))], none, 1⟩,
    ⟨(some 3), .box (.t 2), none, 1⟩,
    ⟨(some 0), .mv (.t 3), none, 2⟩] 2 none) .ret)),
  [.tmp 0], 4, [0]⟩
theorem ok_route_New : cFn Try.prog eqsT newsT vf_route_New.keep Try.f39 = some vf_route_New := by kernel_rfl
def vf_route_Table__Add : VFn := ⟨(.seq (.reg [
    ⟨(some 3), .box (.t 1), none, 0⟩,
    ⟨(some 4), .mv (.c (.p (.o (.int .i64 0)))), none, 1⟩] 1 none) (.seq (.block 0 (.seq (.reg [
    ⟨(some 9), .mv (.t 0), none, 0⟩,
    ⟨(some 10), .call 61 [(.t 9)] 0, none, 0⟩,
    ⟨(some 8), .mv (.t 10), none, 0⟩] 0 none) (.cond (.t 8) (.seq (.reg [
    ⟨(some 4), .mv (.c (.p (.o (.int .i64 1)))), none, 0⟩] 0 none) .ret) (.seq (.reg [
    ⟨(some 12), .fad 1 (.t 3), none, 0⟩,
    ⟨(some 13), .ld none (.t 12), none, 0⟩,
    ⟨(some 14), .bin .lss (.t 13) (.c (.p (.o (.int .i64 0)))), none, 0⟩,
    ⟨(some 15), .mv (.t 14), none, 0⟩,
    ⟨(some 16), .fad 1 (.t 3), (some (15, false)), 0⟩,
    ⟨(some 17), .ld none (.t 16), (some (15, false)), 0⟩,
    ⟨(some 18), .bin .gtr (.t 17) (.c (.p (.o (.int .i64 32)))), (some (15, false)), 0⟩,
    ⟨(some 19), .pick (.t 15) (.c (.p (.o (.bool true)))) (.t 18), none, 0⟩,
    ⟨(some 20), .mv (.t 19), none, 0⟩,
    ⟨(some 21), .fad 3 (.t 3), (some (20, false)), 0⟩,
    ⟨(some 22), .ld none (.t 21), (some (20, false)), 0⟩,
    ⟨(some 23), .bin .lss (.t 22) (.c (.p (.o (.int .i64 0)))), (some (20, false)), 0⟩,
    ⟨(some 24), .pick (.t 20) (.c (.p (.o (.bool true)))) (.t 23), none, 0⟩,
    ⟨(some 25), .mv (.t 24), none, 0⟩,
    ⟨(some 26), .fad 0 (.t 3), (some (25, false)), 0⟩,
    ⟨(some 27), .ld none (.t 26), (some (25, false)), 0⟩,
    ⟨(some 28), .fad 1 (.t 3), (some (25, false)), 0⟩,
    ⟨(some 29), .ld none (.t 28), (some (25, false)), 0⟩,
    ⟨(some 30), .call 62 [(.t 29)] 0, (some (25, false)), 0⟩,
    ⟨(some 31), .bin .andNot (.t 27) (.t 30), (some (25, false)), 0⟩,
    ⟨(some 32), .bin .neq (.t 31) (.c (.p (.o (.int .u32 0)))), (some (25, false)), 0⟩,
    ⟨(some 33), .pick (.t 25) (.c (.p (.o (.bool true)))) (.t 32), none, 0⟩,
    ⟨(some 11), .mv (.t 33), none, 0⟩] 0 (some [(14, 16), (15, 16), (14, 17), (15, 17), (14, 18), (15, 18)])) (.cond (.t 11) (.seq (.reg [
    ⟨(some 4), .mv (.c (.p (.o (.int .i64 2)))), none, 0⟩] 0 none) .ret) .skip))))) (.seq (.reg [
    ⟨(some 34), .fad 0 (.t 3), none, 0⟩,
    ⟨(some 35), .ld none (.t 34), none, 0⟩,
    ⟨(some 36), .fad 1 (.t 3), none, 0⟩,
    ⟨(some 37), .ld none (.t 36), none, 0⟩,
    ⟨(some 38), .bld [.int .u32 0, .int .i64 0] [(0, 1, (.t 35)), (1, 1, (.t 37))], none, 0⟩,
    ⟨(some 5), .new [.int .u32 0, .int .i64 0], none, 0⟩,
    ⟨none, .st 2 (.t 5) (.t 38), none, 1⟩] 1 none) (.seq (.seq (.reg [
    ⟨(some 40), .mv (.t 0), none, 0⟩,
    ⟨(some 41), .nilc (.t 40), none, 0⟩,
    ⟨(some 42), .fad 0 (.t 41), none, 0⟩,
    ⟨(some 43), .ld none (.t 42), none, 0⟩,
    ⟨(some 44), .ld (some 2) (.t 5), none, 0⟩,
    ⟨(some 45), .mget true [.int .u32, .int .i64] (.a [.int .u32 0, .int .i64 0, .int .u32 0, .int .i64 0, .int .u32 0]) true (.t 43) (.t 44), none, 0⟩,
    ⟨(some 39), .mv (.t 45), none, 0⟩,
    ⟨(some 46), .ext 0 (.t 39), none, 0⟩,
    ⟨(some 47), .ext 1 (.t 39), none, 0⟩,
    ⟨(some 6), .new [.int .u32 0, .int .i64 0, .int .u32 0, .int .i64 0, .int .u32 0], none, 0⟩,
    ⟨none, .st 5 (.t 6) (.t 46), none, 1⟩,
    ⟨(some 7), .mv (.t 47), none, 1⟩] 1 (some [(0, 4), (1, 4), (2, 4), (3, 4), (7, 8), (0, 9), (1, 9), (2, 9), (3, 9), (4, 9), (5, 9), (6, 9), (7, 9), (8, 9), (8, 10)])) (.seq (.reg [
    ⟨(some 48), .mv (.t 7), none, 0⟩,
    ⟨(some 49), .un .not (.t 48), none, 0⟩,
    ⟨(some 50), .mv (.t 49), none, 0⟩,
    ⟨(some 51), .mv (.t 0), (some (50, true)), 0⟩,
    ⟨(some 52), .nilc (.t 51), (some (50, true)), 0⟩,
    ⟨(some 53), .fad 0 (.t 52), (some (50, true)), 0⟩,
    ⟨(some 54), .ld none (.t 53), (some (50, true)), 0⟩,
    ⟨(some 55), .mlen (.t 54), (some (50, true)), 0⟩,
    ⟨(some 56), .bin .geq (.t 55) (.c (.p (.o (.int .i64 1024)))), (some (50, true)), 0⟩,
    ⟨(some 57), .pick (.t 50) (.t 56) (.c (.p (.o (.bool false)))), none, 0⟩] 0 none) (.cond (.t 57) (.seq (.reg [
    ⟨(some 4), .mv (.c (.p (.o (.int .i64 6)))), none, 0⟩] 0 none) .ret) .skip))) (.seq (.reg [
    ⟨(some 58), .mv (.t 0), none, 0⟩,
    ⟨(some 59), .nilc (.t 58), none, 0⟩,
    ⟨(some 60), .fad 0 (.t 59), none, 0⟩,
    ⟨(some 61), .ld none (.t 60), none, 0⟩,
    ⟨(some 62), .ld (some 2) (.t 5), none, 0⟩,
    ⟨(some 63), .ld (some 5) (.t 3), none, 0⟩,
    ⟨none, .mset true [.int .u32, .int .i64] (.t 61) (.t 62) (.t 63), none, 0⟩] 0 (some [(0, 4), (1, 4), (2, 4), (3, 4), (0, 5), (1, 5), (2, 5), (3, 5), (4, 5)])) (.seq (.reg [
    ⟨(some 4), .mv (.c (.p (.o (.int .i64 0)))), none, 0⟩] 0 none) .ret)))))),
  [.tmp 4], 64, [0, 1, 3, 4, 5, 7]⟩
theorem ok_route_Table__Add : cFn Try.prog eqsT newsT vf_route_Table__Add.keep Try.f40 = some vf_route_Table__Add := by kernel_rfl
def vf_route_Table__Drop : VFn := ⟨(.seq (.reg [
    ⟨(some 6), .mv (.c (.p (.o (.bool false)))), none, 0⟩] 0 none) (.seq (.seq (.reg [
    ⟨(some 10), .mv (.t 0), none, 0⟩,
    ⟨(some 11), .call 61 [(.t 10)] 0, none, 0⟩] 0 none) (.cond (.t 11) (.seq (.reg [
    ⟨(some 6), .mv (.c (.p (.o (.bool false)))), none, 0⟩] 0 none) .ret) .skip)) (.seq (.reg [
    ⟨(some 12), .mv (.t 1), none, 0⟩,
    ⟨(some 13), .mv (.t 2), none, 0⟩,
    ⟨(some 14), .bld [.int .u32 0, .int .i64 0] [(0, 1, (.t 12)), (1, 1, (.t 13))], none, 0⟩,
    ⟨(some 7), .new [.int .u32 0, .int .i64 0], none, 0⟩,
    ⟨none, .st 2 (.t 7) (.t 14), none, 1⟩] 1 none) (.seq (.reg [
    ⟨(some 16), .mv (.t 0), none, 0⟩,
    ⟨(some 17), .nilc (.t 16), none, 0⟩,
    ⟨(some 18), .fad 0 (.t 17), none, 0⟩,
    ⟨(some 19), .ld none (.t 18), none, 0⟩,
    ⟨(some 20), .ld (some 2) (.t 7), none, 0⟩,
    ⟨(some 21), .mget true [.int .u32, .int .i64] (.a [.int .u32 0, .int .i64 0, .int .u32 0, .int .i64 0, .int .u32 0]) true (.t 19) (.t 20), none, 0⟩,
    ⟨(some 15), .mv (.t 21), none, 0⟩,
    ⟨(some 22), .ext 0 (.t 15), none, 0⟩,
    ⟨(some 23), .ext 1 (.t 15), none, 0⟩,
    ⟨(some 8), .new [.int .u32 0, .int .i64 0, .int .u32 0, .int .i64 0, .int .u32 0], none, 0⟩,
    ⟨none, .st 5 (.t 8) (.t 22), none, 1⟩,
    ⟨(some 9), .mv (.t 23), none, 1⟩] 1 (some [(0, 4), (1, 4), (2, 4), (3, 4), (7, 8), (0, 9), (1, 9), (2, 9), (3, 9), (4, 9), (5, 9), (6, 9), (7, 9), (8, 9), (8, 10)])) (.seq (.reg [
    ⟨(some 24), .mv (.t 0), none, 0⟩,
    ⟨(some 25), .nilc (.t 24), none, 0⟩,
    ⟨(some 26), .fad 0 (.t 25), none, 0⟩,
    ⟨(some 27), .ld none (.t 26), none, 0⟩,
    ⟨(some 28), .ld (some 2) (.t 7), none, 0⟩,
    ⟨none, .mdel true [.int .u32, .int .i64] (.t 27) (.t 28), none, 0⟩] 0 (some [(0, 4), (1, 4), (2, 4), (3, 4)])) (.seq (.reg [
    ⟨(some 29), .mv (.t 9), none, 0⟩,
    ⟨(some 6), .mv (.t 29), none, 0⟩] 0 none) .ret)))))),
  [.tmp 6], 30, [0, 1, 2, 6, 7, 9]⟩
theorem ok_route_Table__Drop : cFn Try.prog eqsT newsT vf_route_Table__Drop.keep Try.f42 = some vf_route_Table__Drop := by kernel_rfl
def vf_route_Table__Find : VFn := ⟨(.seq (.reg [
    ⟨(some 2), .box (.t 0), none, 0⟩,
    ⟨(some 4), .new [.int .u32 0, .int .i64 0, .int .u32 0, .int .i64 0, .int .u32 0], none, 1⟩,
    ⟨(some 5), .new [.bool false], none, 2⟩] 3 none) (.seq (.seq (.reg [
    ⟨(some 9), .ld none (.t 2), none, 0⟩,
    ⟨(some 10), .call 61 [(.t 9)] 0, none, 0⟩] 0 none) (.cond (.t 10) (.seq (.reg [
    ⟨(some 11), .bld [.int .u32 0, .int .i64 0, .int .u32 0, .int .i64 0, .int .u32 0] [], none, 0⟩,
    ⟨none, .st 5 (.t 4) (.t 11), none, 0⟩,
    ⟨none, .st 1 (.t 5) (.c (.p (.o (.bool false)))), none, 0⟩] 0 none) .ret) .skip)) (.seq (.seq (.reg [
    ⟨(some 12), .mv (.t 1), none, 0⟩,
    ⟨(some 13), .call 64 [(.t 12)] 1, none, 0⟩] 1 none) (.block 0 (.rangeF (.t 13) [14] (.reg [
    ⟨(some 6), .new [.int .u32 0, .int .i64 0], none, 0⟩,
    ⟨none, .st 2 (.t 6) (.t 14), none, 1⟩] 1 none) (.block 1 (.seq (.reg [
    ⟨(some 16), .ld none (.t 2), none, 0⟩,
    ⟨(some 17), .nilc (.t 16), none, 0⟩,
    ⟨(some 18), .fad 0 (.t 17), none, 0⟩,
    ⟨(some 19), .ld none (.t 18), none, 0⟩,
    ⟨(some 20), .ld (some 2) (.t 6), none, 0⟩,
    ⟨(some 21), .mget true [.int .u32, .int .i64] (.a [.int .u32 0, .int .i64 0, .int .u32 0, .int .i64 0, .int .u32 0]) true (.t 19) (.t 20), none, 0⟩,
    ⟨(some 15), .mv (.t 21), none, 0⟩,
    ⟨(some 22), .ext 0 (.t 15), none, 0⟩,
    ⟨(some 23), .ext 1 (.t 15), none, 0⟩,
    ⟨(some 7), .new [.int .u32 0, .int .i64 0, .int .u32 0, .int .i64 0, .int .u32 0], none, 0⟩,
    ⟨none, .st 5 (.t 7) (.t 22), none, 1⟩,
    ⟨(some 8), .mv (.t 23), none, 1⟩] 1 (some [(0, 4), (1, 4), (2, 4), (3, 4), (7, 8), (0, 9), (1, 9), (2, 9), (3, 9), (4, 9), (5, 9), (6, 9), (7, 9), (8, 9), (8, 10)])) (.seq (.reg [
    ⟨(some 24), .mv (.t 8), none, 0⟩] 0 none) (.cond (.t 24) (.seq (.reg [
    ⟨(some 25), .ld (some 5) (.t 7), none, 0⟩,
    ⟨none, .st 5 (.t 4) (.t 25), none, 0⟩,
    ⟨none, .st 1 (.t 5) (.c (.p (.o (.bool true)))), none, 0⟩] 0 none) .ret) .skip))))))) (.seq (.reg [
    ⟨(some 26), .bld [.int .u32 0, .int .i64 0, .int .u32 0, .int .i64 0, .int .u32 0] [], none, 0⟩,
    ⟨none, .st 5 (.t 4) (.t 26), none, 0⟩,
    ⟨none, .st 1 (.t 5) (.c (.p (.o (.bool false)))), none, 0⟩] 0 none) .ret)))),
  [.cell 4 (some 5), .cell 5 none], 27, [0, 1, 2, 4, 5, 6, 7, 8, 13, 14]⟩
theorem ok_route_Table__Find : cFn Try.prog eqsT newsT vf_route_Table__Find.keep Try.f44 = some vf_route_Table__Find := by kernel_rfl
def vf_route_Table__none : VFn := ⟨(.seq (.reg [
    ⟨(some 2), .mv (.c (.p (.o (.bool false)))), none, 0⟩] 0 none) (.seq (.reg [
    ⟨(some 3), .mv (.t 0), none, 0⟩,
    ⟨(some 4), .eq (.ref 0) false (.t 3) (.c (.p (.o (.nilp)))), none, 0⟩,
    ⟨(some 5), .mv (.t 4), none, 0⟩,
    ⟨(some 6), .mv (.t 0), (some (5, false)), 0⟩,
    ⟨(some 7), .nilc (.t 6), (some (5, false)), 0⟩,
    ⟨(some 8), .fad 0 (.t 7), (some (5, false)), 0⟩,
    ⟨(some 9), .ld none (.t 8), (some (5, false)), 0⟩,
    ⟨(some 10), .eq (.ref 3) false (.t 9) (.c (.p (.o (.nilm)))), (some (5, false)), 0⟩,
    ⟨(some 11), .pick (.t 5) (.c (.p (.o (.bool true)))) (.t 10), none, 0⟩,
    ⟨(some 2), .mv (.t 11), none, 0⟩] 0 none) .ret)),
  [.tmp 2], 12, [0, 2]⟩
theorem ok_route_Table__none : cFn Try.prog eqsT newsT vf_route_Table__none.keep Try.f61 = some vf_route_Table__none := by kernel_rfl
def vf_route_prefixes : VFn := ⟨(.seq (.reg [
    ⟨(some 1), .box (.t 0), none, 0⟩,
    ⟨(some 2), .mv (.c (.p (.o (.nilfn)))), none, 1⟩] 1 none) (.seq (.reg [
    ⟨(some 3), .mkf 75 [(.t 1)], none, 0⟩,
    ⟨(some 2), .mv (.t 3), none, 0⟩] 0 none) .ret)),
  [.tmp 2], 4, [0, 1, 2]⟩
theorem ok_route_prefixes : cFn Try.prog eqsT newsT vf_route_prefixes.keep Try.f64 = some vf_route_prefixes := by kernel_rfl
def vf_route_prefixes_1 : VFn := ⟨(.seq (.reg [
    ⟨(some 3), .mv (.c (.p (.o (.int .i64 32)))), none, 0⟩] 0 none) (.block 0 (.loop (.seq (.seq (.reg [
    ⟨(some 4), .mv (.t 3), none, 0⟩,
    ⟨(some 5), .bin .geq (.t 4) (.c (.p (.o (.int .i64 0)))), none, 0⟩,
    ⟨(some 6), .mv (.t 5), none, 0⟩,
    ⟨(some 7), .mv (.t 0), (some (6, true)), 0⟩,
    ⟨(some 8), .ld none (.t 1), (some (6, true)), 0⟩,
    ⟨(some 9), .mv (.t 3), (some (6, true)), 0⟩,
    ⟨(some 10), .call 62 [(.t 9)] 0, (some (6, true)), 0⟩,
    ⟨(some 11), .bin .and (.t 8) (.t 10), (some (6, true)), 0⟩,
    ⟨(some 12), .mv (.t 3), (some (6, true)), 0⟩,
    ⟨(some 13), .bld [.int .u32 0, .int .i64 0] [(0, 1, (.t 11)), (1, 1, (.t 12))], (some (6, true)), 0⟩,
    ⟨(some 14), .callv (.t 7) [(.t 13)] 2, (some (6, true)), 0⟩,
    ⟨(some 15), .pick (.t 6) (.t 14) (.c (.p (.o (.bool false)))), none, 2⟩] 2 (some [(3, 4), (3, 5), (4, 5), (3, 6), (4, 6), (3, 7), (3, 8), (4, 8), (5, 8), (6, 8), (7, 8), (3, 9)])) (.cond (.t 15) .skip (.exit 0))) (.seq (.block 1 .skip) (.reg [
    ⟨(some 16), .mv (.t 3), none, 0⟩,
    ⟨(some 17), .bin .sub (.t 16) (.c (.p (.o (.int .i64 1)))), none, 0⟩,
    ⟨(some 3), .mv (.t 17), none, 0⟩] 0 none)))))),
  [], 18, [0, 1, 3]⟩
theorem ok_route_prefixes_1 : cFn Try.prog eqsT newsT vf_route_prefixes_1.keep Try.f75 = some vf_route_prefixes_1 := by kernel_rfl
def vf_route_Table__All : VFn := ⟨(.seq (.reg [
    ⟨(some 2), .mv (.c (.p (.o (.nils)))), none, 0⟩] 0 none) (.seq (.seq (.reg [
    ⟨(some 3), .mv (.t 0), none, 0⟩,
    ⟨(some 4), .call 61 [(.t 3)] 0, none, 0⟩] 0 none) (.cond (.t 4) (.seq (.reg [
    ⟨(some 2), .mv (.c (.p (.o (.nils)))), none, 0⟩] 0 none) .ret) .skip)) (.seq (.reg [
    ⟨(some 5), .mv (.t 0), none, 0⟩,
    ⟨(some 6), .nilc (.t 5), none, 0⟩,
    ⟨(some 7), .fad 0 (.t 6), none, 0⟩,
    ⟨(some 8), .ld none (.t 7), none, 0⟩,
    ⟨(some 9), .call 66 [(.t 8)] 1, none, 0⟩,
    ⟨(some 10), .call 65 [(.t 9), (.c (.p (.o (.fn 67 []))))] 1, none, 1⟩,
    ⟨(some 2), .mv (.t 10), none, 2⟩] 2 none) .ret))),
  [.tmp 2], 11, [0, 2]⟩
theorem ok_route_Table__All : cFn Try.prog eqsT newsT vf_route_Table__All.keep Try.f47 = some vf_route_Table__All := by kernel_rfl
def vf_route_Table__All_1 : VFn := ⟨(.seq (.reg [
    ⟨(some 2), .box (.t 0), none, 0⟩,
    ⟨(some 3), .box (.t 1), none, 1⟩,
    ⟨(some 4), .mv (.c (.p (.o (.int .i64 0)))), none, 2⟩] 2 none) (.seq (.reg [
    ⟨(some 5), .fad 1 (.t 3), none, 0⟩,
    ⟨(some 6), .ld none (.t 5), none, 0⟩,
    ⟨(some 7), .fad 1 (.t 2), none, 0⟩,
    ⟨(some 8), .ld none (.t 7), none, 0⟩,
    ⟨(some 9), .call 69 [(.t 6), (.t 8)] 0, none, 0⟩,
    ⟨(some 10), .fad 0 (.t 2), none, 0⟩,
    ⟨(some 11), .ld none (.t 10), none, 0⟩,
    ⟨(some 12), .fad 0 (.t 3), none, 0⟩,
    ⟨(some 13), .ld none (.t 12), none, 0⟩,
    ⟨(some 14), .call 70 [(.t 11), (.t 13)] 0, none, 0⟩,
    ⟨(some 15), .bsl 2 [.int .i64 0, .int .i64 0] [(0, 1, (.t 9)), (1, 1, (.t 14))], none, 0⟩,
    ⟨(some 16), .call 68 [(.t 15)] 0, none, 1⟩,
    ⟨(some 4), .mv (.t 16), none, 1⟩] 1 (some [(0, 2), (1, 2), (0, 3), (1, 3), (0, 5), (1, 5), (2, 5), (3, 5), (4, 5), (0, 6), (1, 6), (2, 6), (3, 6), (4, 6), (0, 7), (1, 7), (2, 7), (3, 7), (4, 7), (5, 7), (6, 7), (0, 8), (1, 8), (2, 8), (3, 8), (4, 8), (5, 8), (6, 8)])) .ret)),
  [.tmp 4], 17, [0, 1, 2, 3, 4]⟩
theorem ok_route_Table__All_1 : cFn Try.prog eqsT newsT vf_route_Table__All_1.keep Try.f67 = some vf_route_Table__All_1 := by kernel_rfl
def vf_maps_Values_66 : VFn := ⟨(.seq (.reg [
    ⟨(some 1), .box (.t 0), none, 0⟩,
    ⟨(some 2), .mv (.c (.p (.o (.nilfn)))), none, 1⟩] 1 none) (.seq (.reg [
    ⟨(some 3), .mkf 78 [(.t 1)], none, 0⟩,
    ⟨(some 2), .mv (.t 3), none, 0⟩] 0 none) .ret)),
  [.tmp 2], 4, [0, 1, 2]⟩
theorem ok_maps_Values_66 : cFn Try.prog eqsT newsT vf_maps_Values_66.keep Try.f66 = some vf_maps_Values_66 := by kernel_rfl
def vf_maps_Values_78 : VFn := ⟨(.seq (.reg [
    ⟨(some 5), .ld none (.t 1), none, 0⟩,
    ⟨(some 6), .rng (.t 5), none, 0⟩] 1 none) (.block 0 (.loop (.seq (.reg [
    ⟨(some 7), .nxt (.t 6), none, 0⟩,
    ⟨(some 8), .ext 0 (.t 7), none, 0⟩] 0 none) (.seq (.cond (.t 8) .skip (.exit 0)) (.block 1 (.seq (.reg [
    ⟨(some 9), .ent (.t 6), none, 0⟩,
    ⟨(some 10), .ext 1 (.t 9), none, 0⟩,
    ⟨(some 4), .new [.int .u32 0, .int .i64 0, .int .u32 0, .int .i64 0, .int .u32 0], none, 0⟩,
    ⟨none, .st 5 (.t 4) (.t 10), none, 1⟩] 1 none) (.seq (.reg [
    ⟨(some 11), .mv (.t 0), none, 0⟩,
    ⟨(some 12), .ld (some 5) (.t 4), none, 0⟩,
    ⟨(some 13), .callv (.t 11) [(.t 12)] 2, none, 0⟩,
    ⟨(some 14), .un .not (.t 13), none, 2⟩] 2 none) (.cond (.t 14) .ret .skip))))))))),
  [], 15, [0, 1, 4, 6]⟩
theorem ok_maps_Values_78 : cFn Try.prog eqsT newsT vf_maps_Values_78.keep Try.f78 = some vf_maps_Values_78 := by kernel_rfl
def vf_slices_SortedFunc_65 : VFn := ⟨(.seq (.reg [
    ⟨(some 4), .mv (.c (.p (.o (.nils)))), none, 0⟩] 0 none) (.seq (.reg [
    ⟨(some 6), .mv (.t 0), none, 0⟩,
    ⟨(some 7), .call 76 [(.t 6)] 1, none, 0⟩,
    ⟨(some 5), .mv (.t 7), none, 1⟩] 1 none) (.seq (.reg [
    ⟨(some 8), .mv (.t 5), none, 0⟩,
    ⟨(some 9), .mv (.t 1), none, 0⟩,
    ⟨(some 10), .call 77 [(.t 8), (.t 9)] 0, none, 0⟩] 0 none) (.seq (.reg [
    ⟨(some 11), .mv (.t 5), none, 0⟩,
    ⟨(some 4), .mv (.t 11), none, 0⟩] 0 none) .ret)))),
  [.tmp 4], 12, [0, 1, 4, 5]⟩
theorem ok_slices_SortedFunc_65 : cFn Try.prog eqsT newsT vf_slices_SortedFunc_65.keep Try.f65 = some vf_slices_SortedFunc_65 := by kernel_rfl
def vf_slices_Collect_76 : VFn := ⟨(.seq (.reg [
    ⟨(some 2), .mv (.c (.p (.o (.nils)))), none, 0⟩] 0 none) (.seq (.reg [
    ⟨(some 3), .mv (.t 0), none, 0⟩,
    ⟨(some 4), .call 84 [(.c (.p (.o (.nils)))), (.t 3)] 1, none, 0⟩,
    ⟨(some 2), .mv (.t 4), none, 1⟩] 1 none) .ret)),
  [.tmp 2], 5, [0, 2]⟩
theorem ok_slices_Collect_76 : cFn Try.prog eqsT newsT vf_slices_Collect_76.keep Try.f76 = some vf_slices_Collect_76 := by kernel_rfl
def vf_slices_AppendSeq_84 : VFn := ⟨(.seq (.reg [
    ⟨(some 2), .box (.t 0), none, 0⟩,
    ⟨(some 4), .mv (.c (.p (.o (.nils)))), none, 1⟩] 1 none) (.seq (.seq (.reg [
    ⟨(some 6), .mv (.t 1), none, 0⟩] 0 none) (.block 0 (.rangeF (.t 6) [7] (.reg [
    ⟨(some 5), .new [.int .u32 0, .int .i64 0, .int .u32 0, .int .i64 0, .int .u32 0], none, 0⟩,
    ⟨none, .st 5 (.t 5) (.t 7), none, 1⟩] 1 none) (.block 1 (.reg [
    ⟨(some 8), .ld none (.t 2), none, 0⟩,
    ⟨(some 9), .ld (some 5) (.t 5), none, 0⟩,
    ⟨(some 10), .bsl 1 [.int .u32 0, .int .i64 0, .int .u32 0, .int .i64 0, .int .u32 0] [(0, 5, (.t 9))], none, 0⟩,
    ⟨(some 11), .app 5 40 (.t 8) (.t 10), none, 1⟩,
    ⟨none, .st 1 (.t 2) (.t 11), none, 2⟩] 2 none))))) (.seq (.reg [
    ⟨(some 12), .ld none (.t 2), none, 0⟩,
    ⟨(some 4), .mv (.t 12), none, 0⟩] 0 none) .ret))),
  [.tmp 4], 13, [0, 1, 2, 4, 5, 6, 7]⟩
theorem ok_slices_AppendSeq_84 : cFn Try.prog eqsT newsT vf_slices_AppendSeq_84.keep Try.f84 = some vf_slices_AppendSeq_84 := by kernel_rfl
def vf_slices_SortFunc_77 : VFn := ⟨(.seq (.reg [
    ⟨(some 5), .mv (.t 0), none, 0⟩,
    ⟨(some 6), .len true (.t 5), none, 0⟩,
    ⟨(some 4), .mv (.t 6), none, 0⟩] 0 none) (.reg [
    ⟨(some 7), .mv (.t 0), none, 0⟩,
    ⟨(some 8), .mv (.t 4), none, 0⟩,
    ⟨(some 9), .mv (.t 4), none, 0⟩,
    ⟨(some 10), .cvi .u64 (.t 9), none, 0⟩,
    ⟨(some 11), .call 86 [(.t 10)] 0, none, 0⟩,
    ⟨(some 12), .mv (.t 1), none, 0⟩,
    ⟨(some 13), .call 85 [(.t 7), (.c (.p (.o (.int .i64 0)))), (.t 8), (.t 11), (.t 12)] 0, none, 0⟩] 0 none)),
  [], 14, [0, 1, 4]⟩
theorem ok_slices_SortFunc_77 : cFn Try.prog eqsT newsT vf_slices_SortFunc_77.keep Try.f77 = some vf_slices_SortFunc_77 := by kernel_rfl
def vf_slices_pdqsortCmpFunc_85 : VFn := ⟨(.seq (.reg [
    ⟨(some 10), .mv (.c (.p (.o (.bool true)))), none, 0⟩] 0 none) (.seq (.reg [
    ⟨(some 11), .mv (.c (.p (.o (.bool true)))), none, 0⟩] 0 none) (.block 0 (.loop (.block 1 (.seq (.reg [
    ⟨(some 21), .mv (.t 2), none, 0⟩,
    ⟨(some 22), .mv (.t 1), none, 0⟩,
    ⟨(some 23), .bin .sub (.t 21) (.t 22), none, 0⟩,
    ⟨(some 12), .mv (.t 23), none, 0⟩] 0 none) (.seq (.seq (.reg [
    ⟨(some 24), .mv (.t 12), none, 0⟩,
    ⟨(some 25), .bin .leq (.t 24) (.c (.p (.o (.int .i64 12)))), none, 0⟩] 0 none) (.cond (.t 25) (.seq (.reg [
    ⟨(some 26), .mv (.t 0), none, 0⟩,
    ⟨(some 27), .mv (.t 1), none, 0⟩,
    ⟨(some 28), .mv (.t 2), none, 0⟩,
    ⟨(some 29), .mv (.t 4), none, 0⟩,
    ⟨(some 30), .call 87 [(.t 26), (.t 27), (.t 28), (.t 29)] 0, none, 0⟩] 0 none) .ret) .skip)) (.seq (.seq (.reg [
    ⟨(some 31), .mv (.t 3), none, 0⟩,
    ⟨(some 32), .bin .eql (.t 31) (.c (.p (.o (.int .i64 0)))), none, 0⟩] 0 none) (.cond (.t 32) (.seq (.reg [
    ⟨(some 33), .mv (.t 0), none, 0⟩,
    ⟨(some 34), .mv (.t 1), none, 0⟩,
    ⟨(some 35), .mv (.t 2), none, 0⟩,
    ⟨(some 36), .mv (.t 4), none, 0⟩,
    ⟨(some 37), .call 88 [(.t 33), (.t 34), (.t 35), (.t 36)] 0, none, 0⟩] 0 none) .ret) .skip)) (.seq (.seq (.reg [
    ⟨(some 38), .mv (.t 10), none, 0⟩,
    ⟨(some 39), .un .not (.t 38), none, 0⟩] 0 none) (.cond (.t 39) (.seq (.reg [
    ⟨(some 40), .mv (.t 0), none, 0⟩,
    ⟨(some 41), .mv (.t 1), none, 0⟩,
    ⟨(some 42), .mv (.t 2), none, 0⟩,
    ⟨(some 43), .mv (.t 4), none, 0⟩,
    ⟨(some 44), .call 89 [(.t 40), (.t 41), (.t 42), (.t 43)] 0, none, 0⟩] 0 none) (.reg [
    ⟨(some 45), .mv (.t 3), none, 0⟩,
    ⟨(some 46), .bin .sub (.t 45) (.c (.p (.o (.int .i64 1)))), none, 0⟩,
    ⟨(some 3), .mv (.t 46), none, 0⟩] 0 none)) .skip)) (.seq (.reg [
    ⟨(some 48), .mv (.t 0), none, 0⟩,
    ⟨(some 49), .mv (.t 1), none, 0⟩,
    ⟨(some 50), .mv (.t 2), none, 0⟩,
    ⟨(some 51), .mv (.t 4), none, 0⟩,
    ⟨(some 52), .call 90 [(.t 48), (.t 49), (.t 50), (.t 51)] 0, none, 0⟩,
    ⟨(some 47), .mv (.t 52), none, 0⟩,
    ⟨(some 53), .ext 0 (.t 47), none, 0⟩,
    ⟨(some 54), .ext 1 (.t 47), none, 0⟩,
    ⟨(some 13), .mv (.t 53), none, 0⟩,
    ⟨(some 14), .mv (.t 54), none, 0⟩] 0 none) (.seq (.seq (.reg [
    ⟨(some 55), .mv (.t 14), none, 0⟩,
    ⟨(some 56), .bin .eql (.t 55) (.c (.p (.o (.int .i64 2)))), none, 0⟩] 0 none) (.cond (.t 56) (.seq (.reg [
    ⟨(some 57), .mv (.t 0), none, 0⟩,
    ⟨(some 58), .mv (.t 1), none, 0⟩,
    ⟨(some 59), .mv (.t 2), none, 0⟩,
    ⟨(some 60), .mv (.t 4), none, 0⟩,
    ⟨(some 61), .call 91 [(.t 57), (.t 58), (.t 59), (.t 60)] 0, none, 0⟩] 0 none) (.seq (.reg [
    ⟨(some 62), .mv (.t 2), none, 0⟩,
    ⟨(some 63), .bin .sub (.t 62) (.c (.p (.o (.int .i64 1)))), none, 0⟩,
    ⟨(some 64), .mv (.t 13), none, 0⟩,
    ⟨(some 65), .mv (.t 1), none, 0⟩,
    ⟨(some 66), .bin .sub (.t 64) (.t 65), none, 0⟩,
    ⟨(some 67), .bin .sub (.t 63) (.t 66), none, 0⟩,
    ⟨(some 13), .mv (.t 67), none, 0⟩] 0 none) (.reg [
    ⟨(some 14), .mv (.c (.p (.o (.int .i64 1)))), none, 0⟩] 0 none))) .skip)) (.seq (.seq (.reg [
    ⟨(some 68), .mv (.t 10), none, 0⟩,
    ⟨(some 69), .mv (.t 68), none, 0⟩,
    ⟨(some 70), .mv (.t 11), (some (69, true)), 0⟩,
    ⟨(some 71), .pick (.t 69) (.t 70) (.c (.p (.o (.bool false)))), none, 0⟩,
    ⟨(some 72), .mv (.t 71), none, 0⟩,
    ⟨(some 73), .mv (.t 14), (some (72, true)), 0⟩,
    ⟨(some 74), .bin .eql (.t 73) (.c (.p (.o (.int .i64 1)))), (some (72, true)), 0⟩,
    ⟨(some 75), .pick (.t 72) (.t 74) (.c (.p (.o (.bool false)))), none, 0⟩] 0 none) (.cond (.t 75) (.seq (.reg [
    ⟨(some 76), .mv (.t 0), none, 0⟩,
    ⟨(some 77), .mv (.t 1), none, 0⟩,
    ⟨(some 78), .mv (.t 2), none, 0⟩,
    ⟨(some 79), .mv (.t 4), none, 0⟩,
    ⟨(some 80), .call 92 [(.t 76), (.t 77), (.t 78), (.t 79)] 0, none, 0⟩] 0 none) (.cond (.t 80) .ret .skip)) .skip)) (.seq (.seq (.reg [
    ⟨(some 81), .mv (.t 1), none, 0⟩,
    ⟨(some 82), .bin .gtr (.t 81) (.c (.p (.o (.int .i64 0)))), none, 0⟩,
    ⟨(some 83), .mv (.t 82), none, 0⟩,
    ⟨(some 84), .mv (.t 4), (some (83, true)), 0⟩,
    ⟨(some 85), .mv (.t 0), (some (83, true)), 0⟩,
    ⟨(some 86), .mv (.t 1), (some (83, true)), 0⟩,
    ⟨(some 87), .bin .sub (.t 86) (.c (.p (.o (.int .i64 1)))), (some (83, true)), 0⟩,
    ⟨(some 88), .iad 5 (.t 85) (.t 87), (some (83, true)), 0⟩,
    ⟨(some 89), .ld (some 5) (.t 88), (some (83, true)), 0⟩,
    ⟨(some 90), .mv (.t 0), (some (83, true)), 0⟩,
    ⟨(some 91), .mv (.t 13), (some (83, true)), 0⟩,
    ⟨(some 92), .iad 5 (.t 90) (.t 91), (some (83, true)), 0⟩,
    ⟨(some 93), .ld (some 5) (.t 92), (some (83, true)), 0⟩,
    ⟨(some 94), .callv (.t 84) [(.t 89), (.t 93)] 2, (some (83, true)), 0⟩,
    ⟨(some 95), .bin .lss (.t 94) (.c (.p (.o (.int .i64 0)))), (some (83, true)), 2⟩,
    ⟨(some 96), .un .not (.t 95), (some (83, true)), 2⟩,
    ⟨(some 97), .pick (.t 83) (.t 96) (.c (.p (.o (.bool false)))), none, 2⟩] 2 (some [(3, 4), (3, 5), (4, 5), (3, 6), (4, 6), (3, 7), (3, 8), (3, 9), (4, 9), (5, 9), (6, 9), (7, 9), (8, 9), (3, 10), (4, 10), (5, 10), (6, 10), (7, 10), (8, 10), (9, 10), (3, 11), (4, 11), (5, 11), (6, 11), (7, 11), (8, 11), (3, 12), (4, 12), (5, 12), (6, 12), (7, 12), (8, 12)])) (.cond (.t 97) (.seq (.reg [
    ⟨(some 98), .mv (.t 0), none, 0⟩,
    ⟨(some 99), .mv (.t 1), none, 0⟩,
    ⟨(some 100), .mv (.t 2), none, 0⟩,
    ⟨(some 101), .mv (.t 13), none, 0⟩,
    ⟨(some 102), .mv (.t 4), none, 0⟩,
    ⟨(some 103), .call 93 [(.t 98), (.t 99), (.t 100), (.t 101), (.t 102)] 0, none, 0⟩,
    ⟨(some 15), .mv (.t 103), none, 0⟩] 0 none) (.seq (.reg [
    ⟨(some 104), .mv (.t 15), none, 0⟩,
    ⟨(some 1), .mv (.t 104), none, 0⟩] 0 none) (.exit 1))) .skip)) (.seq (.reg [
    ⟨(some 106), .mv (.t 0), none, 0⟩,
    ⟨(some 107), .mv (.t 1), none, 0⟩,
    ⟨(some 108), .mv (.t 2), none, 0⟩,
    ⟨(some 109), .mv (.t 13), none, 0⟩,
    ⟨(some 110), .mv (.t 4), none, 0⟩,
    ⟨(some 111), .call 94 [(.t 106), (.t 107), (.t 108), (.t 109), (.t 110)] 0, none, 0⟩,
    ⟨(some 105), .mv (.t 111), none, 0⟩,
    ⟨(some 112), .ext 0 (.t 105), none, 0⟩,
    ⟨(some 113), .ext 1 (.t 105), none, 0⟩,
    ⟨(some 16), .mv (.t 112), none, 0⟩,
    ⟨(some 17), .mv (.t 113), none, 0⟩] 0 none) (.seq (.reg [
    ⟨(some 114), .mv (.t 17), none, 0⟩,
    ⟨(some 11), .mv (.t 114), none, 0⟩] 0 none) (.seq (.reg [
    ⟨(some 115), .mv (.t 16), none, 0⟩,
    ⟨(some 116), .mv (.t 1), none, 0⟩,
    ⟨(some 117), .bin .sub (.t 115) (.t 116), none, 0⟩,
    ⟨(some 118), .mv (.t 2), none, 0⟩,
    ⟨(some 119), .mv (.t 16), none, 0⟩,
    ⟨(some 120), .bin .sub (.t 118) (.t 119), none, 0⟩,
    ⟨(some 18), .mv (.t 117), none, 0⟩,
    ⟨(some 19), .mv (.t 120), none, 0⟩] 0 none) (.seq (.reg [
    ⟨(some 121), .mv (.t 12), none, 0⟩,
    ⟨(some 122), .bin .quo (.t 121) (.c (.p (.o (.int .i64 8)))), none, 0⟩,
    ⟨(some 20), .mv (.t 122), none, 0⟩] 0 none) (.seq (.reg [
    ⟨(some 123), .mv (.t 18), none, 0⟩,
    ⟨(some 124), .mv (.t 19), none, 0⟩,
    ⟨(some 125), .bin .lss (.t 123) (.t 124), none, 0⟩] 0 none) (.cond (.t 125) (.seq (.reg [
    ⟨(some 126), .mv (.t 18), none, 0⟩,
    ⟨(some 127), .mv (.t 20), none, 0⟩,
    ⟨(some 128), .bin .geq (.t 126) (.t 127), none, 0⟩,
    ⟨(some 10), .mv (.t 128), none, 0⟩] 0 none) (.seq (.reg [
    ⟨(some 129), .mv (.t 0), none, 0⟩,
    ⟨(some 130), .mv (.t 1), none, 0⟩,
    ⟨(some 131), .mv (.t 16), none, 0⟩,
    ⟨(some 132), .mv (.t 3), none, 0⟩,
    ⟨(some 133), .mv (.t 4), none, 0⟩,
    ⟨(some 134), .call 85 [(.t 129), (.t 130), (.t 131), (.t 132), (.t 133)] 0, none, 0⟩] 0 none) (.reg [
    ⟨(some 135), .mv (.t 16), none, 0⟩,
    ⟨(some 136), .bin .add (.t 135) (.c (.p (.o (.int .i64 1)))), none, 0⟩,
    ⟨(some 1), .mv (.t 136), none, 0⟩] 0 none))) (.seq (.reg [
    ⟨(some 137), .mv (.t 19), none, 0⟩,
    ⟨(some 138), .mv (.t 20), none, 0⟩,
    ⟨(some 139), .bin .geq (.t 137) (.t 138), none, 0⟩,
    ⟨(some 10), .mv (.t 139), none, 0⟩] 0 none) (.seq (.reg [
    ⟨(some 140), .mv (.t 0), none, 0⟩,
    ⟨(some 141), .mv (.t 16), none, 0⟩,
    ⟨(some 142), .bin .add (.t 141) (.c (.p (.o (.int .i64 1)))), none, 0⟩,
    ⟨(some 143), .mv (.t 2), none, 0⟩,
    ⟨(some 144), .mv (.t 3), none, 0⟩,
    ⟨(some 145), .mv (.t 4), none, 0⟩,
    ⟨(some 146), .call 85 [(.t 140), (.t 142), (.t 143), (.t 144), (.t 145)] 0, none, 0⟩] 0 none) (.reg [
    ⟨(some 147), .mv (.t 16), none, 0⟩,
    ⟨(some 2), .mv (.t 147), none, 0⟩] 0 none)))))))))))))))))))))),
  [], 148, [0, 1, 2, 3, 4, 10, 11, 12, 13, 14, 15, 16, 17, 18, 19, 20]⟩
theorem ok_slices_pdqsortCmpFunc_85 : cFn Try.prog eqsT newsT vf_slices_pdqsortCmpFunc_85.keep Try.f85 = some vf_slices_pdqsortCmpFunc_85 := by kernel_rfl
def vf_slices_insertionSortCmpFunc_87 : VFn := ⟨(.seq (.reg [
    ⟨(some 10), .mv (.t 1), none, 0⟩,
    ⟨(some 11), .bin .add (.t 10) (.c (.p (.o (.int .i64 1)))), none, 0⟩,
    ⟨(some 8), .mv (.t 11), none, 0⟩] 0 none) (.block 0 (.loop (.seq (.seq (.reg [
    ⟨(some 12), .mv (.t 8), none, 0⟩,
    ⟨(some 13), .mv (.t 2), none, 0⟩,
    ⟨(some 14), .bin .lss (.t 12) (.t 13), none, 0⟩] 0 none) (.cond (.t 14) .skip (.exit 0))) (.seq (.block 1 (.seq (.reg [
    ⟨(some 17), .mv (.t 8), none, 0⟩,
    ⟨(some 9), .mv (.t 17), none, 0⟩] 0 none) (.block 2 (.loop (.seq (.seq (.reg [
    ⟨(some 18), .mv (.t 9), none, 0⟩,
    ⟨(some 19), .mv (.t 1), none, 0⟩,
    ⟨(some 20), .bin .gtr (.t 18) (.t 19), none, 0⟩,
    ⟨(some 21), .mv (.t 20), none, 0⟩,
    ⟨(some 22), .mv (.t 3), (some (21, true)), 0⟩,
    ⟨(some 23), .mv (.t 0), (some (21, true)), 0⟩,
    ⟨(some 24), .mv (.t 9), (some (21, true)), 0⟩,
    ⟨(some 25), .iad 5 (.t 23) (.t 24), (some (21, true)), 0⟩,
    ⟨(some 26), .ld (some 5) (.t 25), (some (21, true)), 0⟩,
    ⟨(some 27), .mv (.t 0), (some (21, true)), 0⟩,
    ⟨(some 28), .mv (.t 9), (some (21, true)), 0⟩,
    ⟨(some 29), .bin .sub (.t 28) (.c (.p (.o (.int .i64 1)))), (some (21, true)), 0⟩,
    ⟨(some 30), .iad 5 (.t 27) (.t 29), (some (21, true)), 0⟩,
    ⟨(some 31), .ld (some 5) (.t 30), (some (21, true)), 0⟩,
    ⟨(some 32), .callv (.t 22) [(.t 26), (.t 31)] 2, (some (21, true)), 0⟩,
    ⟨(some 33), .bin .lss (.t 32) (.c (.p (.o (.int .i64 0)))), (some (21, true)), 2⟩,
    ⟨(some 34), .pick (.t 21) (.t 33) (.c (.p (.o (.bool false)))), none, 2⟩] 2 (some [(0, 1), (4, 5), (4, 6), (5, 6), (4, 7), (4, 8), (4, 9), (5, 9), (6, 9), (7, 9), (8, 9), (4, 10), (5, 10), (6, 10), (7, 10), (8, 10), (9, 10), (4, 11), (5, 11), (6, 11), (7, 11), (8, 11), (9, 11), (4, 12), (5, 12), (6, 12), (7, 12), (8, 12), (4, 13), (5, 13), (6, 13), (7, 13), (8, 13)])) (.cond (.t 34) .skip (.exit 2))) (.seq (.block 3 (.reg [
    ⟨(some 37), .mv (.t 0), none, 0⟩,
    ⟨(some 38), .mv (.t 9), none, 0⟩,
    ⟨(some 39), .mv (.t 0), none, 0⟩,
    ⟨(some 40), .mv (.t 9), none, 0⟩,
    ⟨(some 41), .bin .sub (.t 40) (.c (.p (.o (.int .i64 1)))), none, 0⟩,
    ⟨(some 42), .mv (.t 0), none, 0⟩,
    ⟨(some 43), .mv (.t 9), none, 0⟩,
    ⟨(some 44), .bin .sub (.t 43) (.c (.p (.o (.int .i64 1)))), none, 0⟩,
    ⟨(some 45), .iad 5 (.t 42) (.t 44), none, 0⟩,
    ⟨(some 46), .ld (some 5) (.t 45), none, 0⟩,
    ⟨(some 47), .mv (.t 0), none, 0⟩,
    ⟨(some 48), .mv (.t 9), none, 0⟩,
    ⟨(some 49), .iad 5 (.t 47) (.t 48), none, 0⟩,
    ⟨(some 50), .ld (some 5) (.t 49), none, 0⟩,
    ⟨(some 51), .iad 5 (.t 37) (.t 38), none, 0⟩,
    ⟨none, .st 5 (.t 51) (.t 46), none, 0⟩,
    ⟨(some 52), .iad 5 (.t 39) (.t 41), none, 0⟩,
    ⟨none, .st 5 (.t 52) (.t 50), none, 0⟩] 0 (some [(0, 1), (0, 2), (1, 2), (0, 3), (1, 3), (2, 3), (0, 4), (1, 4), (2, 4), (0, 5), (1, 5), (2, 5), (3, 5), (4, 5), (0, 6), (1, 6), (2, 6), (3, 6), (4, 6), (5, 6), (0, 7), (1, 7), (2, 7), (3, 7), (4, 7), (5, 7), (0, 8), (1, 8), (2, 8), (3, 8), (4, 8), (0, 9), (1, 9), (2, 9), (3, 9), (4, 9), (0, 10), (1, 10), (2, 10), (3, 10), (4, 10), (5, 10), (6, 10), (7, 10), (8, 10), (9, 10), (0, 11), (1, 11), (2, 11), (3, 11), (4, 11), (5, 11), (6, 11), (7, 11), (8, 11), (9, 11), (10, 11), (0, 12), (1, 12), (2, 12), (3, 12), (4, 12), (5, 12), (6, 12), (7, 12), (8, 12), (9, 12), (0, 13), (1, 13), (2, 13), (3, 13), (4, 13), (5, 13), (6, 13), (7, 13), (8, 13), (9, 13), (2, 14), (3, 14), (4, 14), (2, 15), (3, 15), (4, 15)]))) (.reg [
    ⟨(some 35), .mv (.t 9), none, 0⟩,
    ⟨(some 36), .bin .sub (.t 35) (.c (.p (.o (.int .i64 1)))), none, 0⟩,
    ⟨(some 9), .mv (.t 36), none, 0⟩] 0 none))))))) (.reg [
    ⟨(some 15), .mv (.t 8), none, 0⟩,
    ⟨(some 16), .bin .add (.t 15) (.c (.p (.o (.int .i64 1)))), none, 0⟩,
    ⟨(some 8), .mv (.t 16), none, 0⟩] 0 none)))))),
  [], 53, [0, 1, 2, 3, 8, 9]⟩
theorem ok_slices_insertionSortCmpFunc_87 : cFn Try.prog eqsT newsT vf_slices_insertionSortCmpFunc_87.keep Try.f87 = some vf_slices_insertionSortCmpFunc_87 := by kernel_rfl
def vf_bits_Len : VFn := ⟨(.seq (.reg [
    ⟨(some 2), .mv (.c (.p (.o (.int .i64 0)))), none, 0⟩] 0 none) (.seq (.cond (.c (.p (.o (.bool false)))) (.seq (.reg [
    ⟨(some 3), .mv (.t 0), none, 0⟩,
    ⟨(some 4), .cvi .u32 (.t 3), none, 0⟩,
    ⟨(some 5), .call 95 [(.t 4)] 0, none, 0⟩,
    ⟨(some 2), .mv (.t 5), none, 0⟩] 0 none) .ret) .skip) (.seq (.reg [
    ⟨(some 6), .mv (.t 0), none, 0⟩,
    ⟨(some 7), .call 96 [(.t 6)] 0, none, 0⟩,
    ⟨(some 2), .mv (.t 7), none, 0⟩] 0 none) .ret))),
  [.tmp 2], 8, [0, 2]⟩
theorem ok_bits_Len : cFn Try.prog eqsT newsT vf_bits_Len.keep Try.f86 = some vf_bits_Len := by kernel_rfl
def vf_bits_Len64 : VFn := ⟨(.seq (.reg [
    ⟨(some 2), .mv (.c (.p (.o (.int .i64 0)))), none, 0⟩] 0 none) (.seq (.seq (.reg [
    ⟨(some 3), .mv (.t 0), none, 0⟩,
    ⟨(some 4), .bin .geq (.t 3) (.c (.p (.o (.int .u64 4294967296)))), none, 0⟩] 0 none) (.cond (.t 4) (.seq (.reg [
    ⟨(some 5), .mv (.t 0), none, 0⟩,
    ⟨(some 6), .bin .shr (.t 5) (.c (.p (.o (.int .u64 32)))), none, 0⟩,
    ⟨(some 0), .mv (.t 6), none, 0⟩] 0 none) (.reg [
    ⟨(some 2), .mv (.c (.p (.o (.int .i64 32)))), none, 0⟩] 0 none)) .skip)) (.seq (.seq (.reg [
    ⟨(some 7), .mv (.t 0), none, 0⟩,
    ⟨(some 8), .bin .geq (.t 7) (.c (.p (.o (.int .u64 65536)))), none, 0⟩] 0 none) (.cond (.t 8) (.seq (.reg [
    ⟨(some 9), .mv (.t 0), none, 0⟩,
    ⟨(some 10), .bin .shr (.t 9) (.c (.p (.o (.int .u64 16)))), none, 0⟩,
    ⟨(some 0), .mv (.t 10), none, 0⟩] 0 none) (.reg [
    ⟨(some 11), .mv (.t 2), none, 0⟩,
    ⟨(some 12), .bin .add (.t 11) (.c (.p (.o (.int .i64 16)))), none, 0⟩,
    ⟨(some 2), .mv (.t 12), none, 0⟩] 0 none)) .skip)) (.seq (.seq (.reg [
    ⟨(some 13), .mv (.t 0), none, 0⟩,
    ⟨(some 14), .bin .geq (.t 13) (.c (.p (.o (.int .u64 256)))), none, 0⟩] 0 none) (.cond (.t 14) (.seq (.reg [
    ⟨(some 15), .mv (.t 0), none, 0⟩,
    ⟨(some 16), .bin .shr (.t 15) (.c (.p (.o (.int .u64 8)))), none, 0⟩,
    ⟨(some 0), .mv (.t 16), none, 0⟩] 0 none) (.reg [
    ⟨(some 17), .mv (.t 2), none, 0⟩,
    ⟨(some 18), .bin .add (.t 17) (.c (.p (.o (.int .i64 8)))), none, 0⟩,
    ⟨(some 2), .mv (.t 18), none, 0⟩] 0 none)) .skip)) (.seq (.reg [
    ⟨(some 19), .mv (.t 2), none, 0⟩,
    ⟨(some 20), .mv (.t 0), none, 0⟩,
    ⟨(some 21), .cvi .u8 (.t 20), none, 0⟩,
    ⟨(some 22), .ixs (.c (.p (.o (.str ⟨#[0, 1, 2, 2, 3, 3, 3, 3, 4, 4, 4, 4, 4, 4, 4, 4, 5, 5, 5, 5, 5, 5, 5, 5, 5, 5, 5, 5, 5, 5, 5, 5, 6, 6, 6, 6, 6, 6, 6, 6, 6, 6, 6, 6, 6, 6, 6, 6, 6, 6, 6, 6, 6, 6, 6, 6, 6, 6, 6, 6, 6, 6, 6, 6, 7, 7, 7, 7, 7, 7, 7, 7, 7, 7, 7, 7, 7, 7, 7, 7, 7, 7, 7, 7, 7, 7, 7, 7, 7, 7, 7, 7, 7, 7, 7, 7, 7, 7, 7, 7, 7, 7, 7, 7, 7, 7, 7, 7, 7, 7, 7, 7, 7, 7, 7, 7, 7, 7, 7, 7, 7, 7, 7, 7, 7, 7, 7, 7, 8, 8, 8, 8, 8, 8, 8, 8, 8, 8, 8, 8, 8, 8, 8, 8, 8, 8, 8, 8, 8, 8, 8, 8, 8, 8, 8, 8, 8, 8, 8, 8, 8, 8, 8, 8, 8, 8, 8, 8, 8, 8, 8, 8, 8, 8, 8, 8, 8, 8, 8, 8, 8, 8, 8, 8, 8, 8, 8, 8, 8, 8, 8, 8, 8, 8, 8, 8, 8, 8, 8, 8, 8, 8, 8, 8, 8, 8, 8, 8, 8, 8, 8, 8, 8, 8, 8, 8, 8, 8, 8, 8, 8, 8, 8, 8, 8, 8, 8, 8, 8, 8, 8, 8, 8, 8, 8, 8, 8, 8, 8, 8, 8, 8, 8, 8, 8, 8, 8, 8, 8, 8, 8, 8, 8, 8, 8, 8]⟩)))) (.t 21), none, 0⟩,
    ⟨(some 23), .cvi .i64 (.t 22), none, 0⟩,
    ⟨(some 24), .bin .add (.t 19) (.t 23), none, 0⟩,
    ⟨(some 2), .mv (.t 24), none, 0⟩] 0 none) .ret))))),
  [.tmp 2], 25, [0, 2]⟩
theorem ok_bits_Len64 : cFn Try.prog eqsT newsT vf_bits_Len64.keep Try.f96 = some vf_bits_Len64 := by kernel_rfl
def vf_cmp_Or_int_ : VFn := ⟨(.seq (.reg [
    ⟨(some 2), .mv (.c (.p (.o (.int .i64 0)))), none, 0⟩] 0 none) (.seq (.reg [
    ⟨(some 3), .mv (.c (.p (.o (.int .i64 0)))), none, 0⟩] 0 none) (.seq (.seq (.reg [
    ⟨(some 6), .mv (.t 0), none, 0⟩,
    ⟨(some 7), .len true (.t 6), none, 0⟩,
    ⟨(some 8), .mv (.c (.p (.o (.int .i64 0)))), none, 0⟩] 0 none) (.block 0 (.loop (.seq (.reg [
    ⟨(some 9), .bin .lss (.t 8) (.t 7), none, 0⟩] 0 none) (.seq (.cond (.t 9) .skip (.exit 0)) (.seq (.block 1 (.seq (.reg [
    ⟨(some 10), .iad 1 (.t 6) (.t 8), none, 0⟩,
    ⟨(some 11), .ld none (.t 10), none, 0⟩,
    ⟨(some 5), .mv (.t 11), none, 0⟩] 0 none) (.seq (.reg [
    ⟨(some 12), .mv (.t 5), none, 0⟩,
    ⟨(some 13), .mv (.t 3), none, 0⟩,
    ⟨(some 14), .bin .neq (.t 12) (.t 13), none, 0⟩] 0 none) (.cond (.t 14) (.seq (.reg [
    ⟨(some 15), .mv (.t 5), none, 0⟩,
    ⟨(some 2), .mv (.t 15), none, 0⟩] 0 none) .ret) .skip)))) (.reg [
    ⟨(some 16), .bin .add (.t 8) (.c (.p (.o (.int .i64 1)))), none, 0⟩,
    ⟨(some 8), .mv (.t 16), none, 0⟩] 0 none))))))) (.seq (.reg [
    ⟨(some 17), .mv (.t 3), none, 0⟩,
    ⟨(some 2), .mv (.t 17), none, 0⟩] 0 none) .ret)))),
  [.tmp 2], 18, [0, 2, 3, 5, 6, 7, 8]⟩
theorem ok_cmp_Or_int_ : cFn Try.prog eqsT newsT vf_cmp_Or_int_.keep Try.f68 = some vf_cmp_Or_int_ := by kernel_rfl
def vf_cmp_Compare_int_ : VFn := ⟨(.seq (.reg [
    ⟨(some 4), .mv (.c (.p (.o (.int .i64 0)))), none, 0⟩] 0 none) (.seq (.reg [
    ⟨(some 7), .mv (.t 0), none, 0⟩,
    ⟨(some 8), .call 79 [(.t 7)] 0, none, 0⟩,
    ⟨(some 5), .mv (.t 8), none, 0⟩] 0 none) (.seq (.reg [
    ⟨(some 9), .mv (.t 1), none, 0⟩,
    ⟨(some 10), .call 79 [(.t 9)] 0, none, 0⟩,
    ⟨(some 6), .mv (.t 10), none, 0⟩] 0 none) (.seq (.seq (.reg [
    ⟨(some 11), .mv (.t 5), none, 0⟩] 0 none) (.cond (.t 11) (.seq (.seq (.reg [
    ⟨(some 12), .mv (.t 6), none, 0⟩] 0 none) (.cond (.t 12) (.seq (.reg [
    ⟨(some 4), .mv (.c (.p (.o (.int .i64 0)))), none, 0⟩] 0 none) .ret) .skip)) (.seq (.reg [
    ⟨(some 4), .mv (.c (.p (.o (.int .i64 (-1))))), none, 0⟩] 0 none) .ret)) .skip)) (.seq (.seq (.reg [
    ⟨(some 13), .mv (.t 6), none, 0⟩] 0 none) (.cond (.t 13) (.seq (.reg [
    ⟨(some 4), .mv (.c (.p (.o (.int .i64 1)))), none, 0⟩] 0 none) .ret) .skip)) (.seq (.seq (.reg [
    ⟨(some 14), .mv (.t 0), none, 0⟩,
    ⟨(some 15), .mv (.t 1), none, 0⟩,
    ⟨(some 16), .bin .lss (.t 14) (.t 15), none, 0⟩] 0 none) (.cond (.t 16) (.seq (.reg [
    ⟨(some 4), .mv (.c (.p (.o (.int .i64 (-1))))), none, 0⟩] 0 none) .ret) .skip)) (.seq (.seq (.reg [
    ⟨(some 17), .mv (.t 0), none, 0⟩,
    ⟨(some 18), .mv (.t 1), none, 0⟩,
    ⟨(some 19), .bin .gtr (.t 17) (.t 18), none, 0⟩] 0 none) (.cond (.t 19) (.seq (.reg [
    ⟨(some 4), .mv (.c (.p (.o (.int .i64 1)))), none, 0⟩] 0 none) .ret) .skip)) (.seq (.reg [
    ⟨(some 4), .mv (.c (.p (.o (.int .i64 0)))), none, 0⟩] 0 none) .ret)))))))),
  [.tmp 4], 20, [0, 1, 4, 5, 6]⟩
theorem ok_cmp_Compare_int_ : cFn Try.prog eqsT newsT vf_cmp_Compare_int_.keep Try.f69 = some vf_cmp_Compare_int_ := by kernel_rfl
def vf_cmp_Compare_uint32_ : VFn := ⟨(.seq (.reg [
    ⟨(some 4), .mv (.c (.p (.o (.int .i64 0)))), none, 0⟩] 0 none) (.seq (.reg [
    ⟨(some 7), .mv (.t 0), none, 0⟩,
    ⟨(some 8), .call 80 [(.t 7)] 0, none, 0⟩,
    ⟨(some 5), .mv (.t 8), none, 0⟩] 0 none) (.seq (.reg [
    ⟨(some 9), .mv (.t 1), none, 0⟩,
    ⟨(some 10), .call 80 [(.t 9)] 0, none, 0⟩,
    ⟨(some 6), .mv (.t 10), none, 0⟩] 0 none) (.seq (.seq (.reg [
    ⟨(some 11), .mv (.t 5), none, 0⟩] 0 none) (.cond (.t 11) (.seq (.seq (.reg [
    ⟨(some 12), .mv (.t 6), none, 0⟩] 0 none) (.cond (.t 12) (.seq (.reg [
    ⟨(some 4), .mv (.c (.p (.o (.int .i64 0)))), none, 0⟩] 0 none) .ret) .skip)) (.seq (.reg [
    ⟨(some 4), .mv (.c (.p (.o (.int .i64 (-1))))), none, 0⟩] 0 none) .ret)) .skip)) (.seq (.seq (.reg [
    ⟨(some 13), .mv (.t 6), none, 0⟩] 0 none) (.cond (.t 13) (.seq (.reg [
    ⟨(some 4), .mv (.c (.p (.o (.int .i64 1)))), none, 0⟩] 0 none) .ret) .skip)) (.seq (.seq (.reg [
    ⟨(some 14), .mv (.t 0), none, 0⟩,
    ⟨(some 15), .mv (.t 1), none, 0⟩,
    ⟨(some 16), .bin .lss (.t 14) (.t 15), none, 0⟩] 0 none) (.cond (.t 16) (.seq (.reg [
    ⟨(some 4), .mv (.c (.p (.o (.int .i64 (-1))))), none, 0⟩] 0 none) .ret) .skip)) (.seq (.seq (.reg [
    ⟨(some 17), .mv (.t 0), none, 0⟩,
    ⟨(some 18), .mv (.t 1), none, 0⟩,
    ⟨(some 19), .bin .gtr (.t 17) (.t 18), none, 0⟩] 0 none) (.cond (.t 19) (.seq (.reg [
    ⟨(some 4), .mv (.c (.p (.o (.int .i64 1)))), none, 0⟩] 0 none) .ret) .skip)) (.seq (.reg [
    ⟨(some 4), .mv (.c (.p (.o (.int .i64 0)))), none, 0⟩] 0 none) .ret)))))))),
  [.tmp 4], 20, [0, 1, 4, 5, 6]⟩
theorem ok_cmp_Compare_uint32_ : cFn Try.prog eqsT newsT vf_cmp_Compare_uint32_.keep Try.f70 = some vf_cmp_Compare_uint32_ := by kernel_rfl
def vf_cmp_isNaN_int_ : VFn := ⟨(.seq (.reg [
    ⟨(some 2), .mv (.c (.p (.o (.bool false)))), none, 0⟩] 0 none) (.seq (.reg [
    ⟨(some 3), .mv (.t 0), none, 0⟩,
    ⟨(some 4), .mv (.t 0), none, 0⟩,
    ⟨(some 5), .bin .neq (.t 3) (.t 4), none, 0⟩,
    ⟨(some 2), .mv (.t 5), none, 0⟩] 0 none) .ret)),
  [.tmp 2], 6, [0, 2]⟩
theorem ok_cmp_isNaN_int_ : cFn Try.prog eqsT newsT vf_cmp_isNaN_int_.keep Try.f79 = some vf_cmp_isNaN_int_ := by kernel_rfl
def vf_cmp_isNaN_uint32_ : VFn := ⟨(.seq (.reg [
    ⟨(some 2), .mv (.c (.p (.o (.bool false)))), none, 0⟩] 0 none) (.seq (.reg [
    ⟨(some 3), .mv (.t 0), none, 0⟩,
    ⟨(some 4), .mv (.t 0), none, 0⟩,
    ⟨(some 5), .bin .neq (.t 3) (.t 4), none, 0⟩,
    ⟨(some 2), .mv (.t 5), none, 0⟩] 0 none) .ret)),
  [.tmp 2], 6, [0, 2]⟩
theorem ok_cmp_isNaN_uint32_ : cFn Try.prog eqsT newsT vf_cmp_isNaN_uint32_.keep Try.f80 = some vf_cmp_isNaN_uint32_ := by kernel_rfl
def vf_addr_Mask : VFn := ⟨(.seq (.reg [
    ⟨(some 2), .mv (.c (.p (.o (.int .u32 0)))), none, 0⟩] 0 none) (.seq (.reg [
    ⟨(some 3), .mv (.t 0), none, 0⟩,
    ⟨(some 4), .mnx true (.t 3) (.c (.p (.o (.int .i64 0)))), none, 0⟩,
    ⟨(some 5), .mnx false (.t 4) (.c (.p (.o (.int .i64 32)))), none, 0⟩,
    ⟨(some 6), .bin .sub (.c (.p (.o (.int .i64 32)))) (.t 5), none, 0⟩,
    ⟨(some 7), .bin .shl (.c (.p (.o (.int .u32 4294967295)))) (.t 6), none, 0⟩,
    ⟨(some 2), .mv (.t 7), none, 0⟩] 0 none) .ret)),
  [.tmp 2], 8, [0, 2]⟩
theorem ok_addr_Mask : cFn Try.prog eqsT newsT vf_addr_Mask.keep Try.f62 = some vf_addr_Mask := by kernel_rfl
theorem Arith.val {k : IntKind} {e v : Int} {K : Int → Prop} (h : k.wrap e = v) (g : K v) : Arith k e K := ⟨h.symm ▸ g⟩
def memN (n : Nat) : List Nat → Bool
  | [] => false
  | k :: l => match Nat.beq n k with
    | true => true
    | false => memN n l
theorem memN_iff {n : Nat} : ∀ {l : List Nat}, memN n l = true ↔ n ∈ l
  | [] => by simp [memN]
  | k :: l => by
    simp only [memN, List.mem_cons]
    cases h : Nat.beq n k with
    | true => simp [Nat.eq_of_beq_eq_true h]
    | false => have := Nat.ne_of_beq_eq_false h; simp [this, memN_iff (l := l)]
def nextS (K : Option MEnt → Prop) (seen : List Nat) : List MEnt → Prop
  | [] => True
  | e :: es => match memN e.born seen with
    | true => nextS K seen es
    | false => K (some e) ∧ nextS K seen es
def allSeen (seen : List Nat) (since : Nat) : List MEnt → Bool
  | [] => true
  | e :: es => match memN e.born seen with
    | true => allSeen seen since es
    | false => match Nat.ble since e.born with
      | true => allSeen seen since es
      | false => false
def nextN (K : Option MEnt → Prop) : Bool → Prop
  | true => K none
  | false => True
def okNext (es : List MEnt) (seen : List Nat) (st : Nat) : Bool := match seen, es with
  | [], _ => true
  | _, [] => true
  | _, e :: _ => Nat.ble (e.born + 1) st
theorem NextM.run {es : List MEnt} {since : Nat} {seen : List Nat} {st : Nat} {K : Option MEnt → Prop} (h : okNext es seen st = true) (h1 : nextS K seen es) (h2 : nextN K (allSeen seen since es)) : NextM es since seen st K := by
  refine ⟨?_, ?_, ?_⟩
  · unfold okNext at h
    split at h
    · exact .inl rfl
    · exact .inr (.inl rfl)
    · exact .inr (.inr ⟨_, by simp, Nat.le_of_ble_eq_true h⟩)
  · clear h h2
    induction es with
    | nil => intro e he; cases he
    | cons x es ih =>
      intro e he hs
      simp only [nextS] at h1
      rcases List.mem_cons.1 he with rfl | he
      · cases hm : memN e.born seen with
        | true => exact absurd (memN_iff.1 hm) hs
        | false => rw [hm] at h1; exact h1.1
      · cases hm : memN x.born seen with
        | true => rw [hm] at h1; exact ih h1 e he hs
        | false => rw [hm] at h1; exact ih h1.2 e he hs
  · clear h h1
    intro hall
    have : allSeen seen since es = true := by
      clear h2
      induction es with
      | nil => rfl
      | cons x es ih =>
        simp only [allSeen]
        cases hm : memN x.born seen with
        | true => exact ih fun e he => hall e (by simp [he])
        | false =>
          cases hb : Nat.ble since x.born with
          | true => exact ih fun e he => hall e (by simp [he])
          | false =>
            have := hall x (by simp) (by rcases Nat.lt_or_ge x.born since with h | h; exact h; rw [Nat.ble_eq_true_of_le h] at hb; cases hb)
            rw [memN_iff.2 this] at hm; cases hm
    rw [this] at h2; exact h2
set_option maxHeartbeats 8000000 in
theorem mask11 (b v : Int) (h : b = 0 ∧ v = 0 ∨ b = 1 ∧ v = 2147483648 ∨ b = 2 ∧ v = 3221225472 ∨ b = 3 ∧ v = 3758096384 ∨ b = 4 ∧ v = 4026531840 ∨ b = 5 ∧ v = 4160749568 ∨ b = 6 ∧ v = 4227858432 ∨ b = 7 ∧ v = 4261412864 ∨ b = 8 ∧ v = 4278190080 ∨ b = 9 ∧ v = 4286578688 ∨ b = 10 ∧ v = 4290772992 ∨ b = 11 ∧ v = 4292870144 ∨ b = 12 ∧ v = 4293918720 ∨ b = 13 ∧ v = 4294443008 ∨ b = 14 ∧ v = 4294705152 ∨ b = 15 ∧ v = 4294836224 ∨ b = 16 ∧ v = 4294901760 ∨ b = 17 ∧ v = 4294934528 ∨ b = 18 ∧ v = 4294950912 ∨ b = 19 ∧ v = 4294959104 ∨ b = 20 ∧ v = 4294963200 ∨ b = 21 ∧ v = 4294965248 ∨ b = 22 ∧ v = 4294966272 ∨ b = 23 ∧ v = 4294966784 ∨ b = 24 ∧ v = 4294967040 ∨ b = 25 ∧ v = 4294967168 ∨ b = 26 ∧ v = 4294967232 ∨ b = 27 ∧ v = 4294967264 ∨ b = 28 ∧ v = 4294967280 ∨ b = 29 ∧ v = 4294967288 ∨ b = 30 ∧ v = 4294967292 ∨ b = 31 ∧ v = 4294967294 ∨ b = 32 ∧ v = 4294967295) : Det G Try.prog 62 [.o (.int .i64 b)] [] (vI .u32 v) [] := by
  rcases h with ⟨rfl, rfl⟩ | ⟨rfl, rfl⟩ | ⟨rfl, rfl⟩ | ⟨rfl, rfl⟩ | ⟨rfl, rfl⟩ | ⟨rfl, rfl⟩ | ⟨rfl, rfl⟩ | ⟨rfl, rfl⟩ | ⟨rfl, rfl⟩ | ⟨rfl, rfl⟩ | ⟨rfl, rfl⟩ | ⟨rfl, rfl⟩ | ⟨rfl, rfl⟩ | ⟨rfl, rfl⟩ | ⟨rfl, rfl⟩ | ⟨rfl, rfl⟩ | ⟨rfl, rfl⟩ | ⟨rfl, rfl⟩ | ⟨rfl, rfl⟩ | ⟨rfl, rfl⟩ | ⟨rfl, rfl⟩ | ⟨rfl, rfl⟩ | ⟨rfl, rfl⟩ | ⟨rfl, rfl⟩ | ⟨rfl, rfl⟩ | ⟨rfl, rfl⟩ | ⟨rfl, rfl⟩ | ⟨rfl, rfl⟩ | ⟨rfl, rfl⟩ | ⟨rfl, rfl⟩ | ⟨rfl, rfl⟩ | ⟨rfl, rfl⟩ | ⟨rfl, rfl⟩ <;> (
    refine can_of_W known mix Try.func62 (by kernel_rfl) ok_addr_Mask (Nat.le_of_ble_eq_true rfl) ?_
    repeat' ((conv => whnf); first
    | ((with_reducible refine Look.mk ?_); refine ⟨_, rfl, ?_⟩)
    | ((with_reducible refine LookN.zeros ?_))
    | ((with_reducible refine LookN.bytes ?_ ?_); (simp; done))
    | ((with_reducible refine BytesW.bytes ?_))
    | ((with_reducible refine Look.byte ?_ ?_); omega)
    | ((with_reducible refine Look.setb ?_ ?_ ?_); exact bv8_bd _; omega)
    | ((with_reducible refine LookN.setb ?_ ?_ ?_); exact bv8_bd _; omega)
    | ((with_reducible refine LookN.mk ?_); refine ⟨_, rfl, ?_⟩)
    | ((with_reducible refine Need.mk ?_ ?_); first | ((with_reducible refine needB ?_); kernel_rfl) | with_reducible rfl | omega | (with_reducible refine ⟨rfl, ?_⟩; focus omega) | (simp only [ByteArray.size_append, size_lit, List.size_toArray, List.length_cons, List.length_nil]; omega) | exact rfl | trivial | exact Nat.le_of_ble_eq_true rfl | (exact ⟨rfl, by omega⟩) | (intro h; first | rfl | cases h) | (simp only [lenS_text, lenS_setN, lenS_zeros]; omega))
    | ((with_reducible refine BytesW.mk ?_); refine ⟨_, rfl, ?_⟩)
    | ((with_reducible refine WrT.same ?_ ?_); focus ((repeat ((conv => whnf); first | exact trivial | (apply And.intro; focus rfl))); done))
    | (with_reducible refine WrT.all ?_)
    | (with_reducible refine DropW.keep ?_)
    | ((with_reducible apply Arith.val); focus ((conv => lhs; simp [IntKind.wrap_u32, IntKind.wrap_u64, IntKind.wrap_i64, IntKind.wrap_u8, IntKind.bits]); exact rfl))
    | ((with_reducible refine Test.tmodEqT ?_ ?_ ?_); omega; focus first | omega | assumption)
    | ((with_reducible refine Test.tmodEqF ?_ ?_ ?_); omega; focus first | omega | assumption)
    | ((with_reducible refine Test.tmodNeT ?_ ?_ ?_); omega; focus first | omega | assumption)
    | ((with_reducible refine Test.tmodNeF ?_ ?_ ?_); omega; focus first | omega | assumption)
    | ((with_reducible refine Test.tmodEq ?_ (fun h => ?_) (fun h => ?_)); omega)
    | ((with_reducible refine Test.tmodNe ?_ (fun h => ?_) (fun h => ?_)); omega)
    | ((with_reducible refine Test.notT ?_ ?_); focus assumption)
    | ((with_reducible refine Test.notF ?_ ?_); focus assumption)
    | (with_reducible refine Test.notIe (fun h => ?_) (fun h => ?_))
    | (with_reducible refine Test.notD (fun h => ?_) (fun h => ?_))
    | ((with_reducible refine Test.empty (fun h => ?_) (fun h => ?_)))
    | (with_reducible refine Test.tt ?_)
    | (with_reducible refine Test.ff ?_)
    | ((with_reducible refine Test.dt ?_ ?_); omega)
    | ((with_reducible refine Test.df ?_ ?_); omega)
    | (with_reducible refine Test.d (fun h => ?_) (fun h => ?_))
    | ((with_reducible refine Test.ieT ?_ ?_); omega)
    | ((with_reducible refine Test.ieF ?_ ?_); omega)
    | ((with_reducible refine Test.neT ?_ ?_); omega)
    | ((with_reducible refine Test.neF ?_ ?_); omega)
    | (with_reducible refine Test.ie (fun h => ?_) (fun h => ?_))
    | (with_reducible refine Test.ne (fun h => ?_) (fun h => ?_))
    | ((with_reducible refine Test.b ?_ ?_); (focus first | assumption | (simp [negB]; done) | exact rfl))
    | ((with_reducible refine Test.nb ?_ ?_); (focus first | assumption | (simp [negB]; done) | exact rfl))
    | (with_reducible refine Test.notS (fun h => ?_) (fun h => ?_))
    | (with_reducible refine Test.mk (fun h => ?_) (fun h => ?_))
    | ((with_reducible refine Arith.tdiv ?_ ?_); omega)
    | (with_reducible refine Arith.bv8 ?_)
    | (with_reducible refine Arith.bv16 ?_)
    | (with_reducible refine Arith.bv32 ?_)
    | (with_reducible refine Arith.bv64 ?_)
    | ((with_reducible refine Arith.i64 ?_ ?_); omega)
    | ((with_reducible refine Arith.u64 ?_ ?_); omega)
    | ((with_reducible refine Arith.u32 ?_ ?_); omega)
    | ((with_reducible refine Arith.u16 ?_ ?_); omega)
    | ((with_reducible refine Arith.u8 ?_ ?_); omega)
    | ((with_reducible refine Arith.i32 ?_ ?_); omega)
    | (with_reducible refine Arith.mk ?_)
    | (with_reducible refine Ends.mk ?_))
    all_goals first | exact ⟨rfl, rfl⟩ | exact rfl)
theorem mask11_0 : Det G Try.prog 62 [.o (.int .i64 0)] [] (vI .u32 0) [] := mask11 _ _ (.inl ⟨rfl, rfl⟩)
theorem mask11_1 : Det G Try.prog 62 [.o (.int .i64 1)] [] (vI .u32 2147483648) [] := mask11 _ _ (.inr (.inl ⟨rfl, rfl⟩))
theorem mask11_2 : Det G Try.prog 62 [.o (.int .i64 2)] [] (vI .u32 3221225472) [] := mask11 _ _ (.inr (.inr (.inl ⟨rfl, rfl⟩)))
theorem mask11_3 : Det G Try.prog 62 [.o (.int .i64 3)] [] (vI .u32 3758096384) [] := mask11 _ _ (.inr (.inr (.inr (.inl ⟨rfl, rfl⟩))))
theorem mask11_4 : Det G Try.prog 62 [.o (.int .i64 4)] [] (vI .u32 4026531840) [] := mask11 _ _ (.inr (.inr (.inr (.inr (.inl ⟨rfl, rfl⟩)))))
theorem mask11_5 : Det G Try.prog 62 [.o (.int .i64 5)] [] (vI .u32 4160749568) [] := mask11 _ _ (.inr (.inr (.inr (.inr (.inr (.inl ⟨rfl, rfl⟩))))))
theorem mask11_6 : Det G Try.prog 62 [.o (.int .i64 6)] [] (vI .u32 4227858432) [] := mask11 _ _ (.inr (.inr (.inr (.inr (.inr (.inr (.inl ⟨rfl, rfl⟩)))))))
theorem mask11_7 : Det G Try.prog 62 [.o (.int .i64 7)] [] (vI .u32 4261412864) [] := mask11 _ _ (.inr (.inr (.inr (.inr (.inr (.inr (.inr (.inl ⟨rfl, rfl⟩))))))))
theorem mask11_8 : Det G Try.prog 62 [.o (.int .i64 8)] [] (vI .u32 4278190080) [] := mask11 _ _ (.inr (.inr (.inr (.inr (.inr (.inr (.inr (.inr (.inl ⟨rfl, rfl⟩)))))))))
theorem mask11_9 : Det G Try.prog 62 [.o (.int .i64 9)] [] (vI .u32 4286578688) [] := mask11 _ _ (.inr (.inr (.inr (.inr (.inr (.inr (.inr (.inr (.inr (.inl ⟨rfl, rfl⟩))))))))))
theorem mask11_10 : Det G Try.prog 62 [.o (.int .i64 10)] [] (vI .u32 4290772992) [] := mask11 _ _ (.inr (.inr (.inr (.inr (.inr (.inr (.inr (.inr (.inr (.inr (.inl ⟨rfl, rfl⟩)))))))))))
theorem mask11_11 : Det G Try.prog 62 [.o (.int .i64 11)] [] (vI .u32 4292870144) [] := mask11 _ _ (.inr (.inr (.inr (.inr (.inr (.inr (.inr (.inr (.inr (.inr (.inr (.inl ⟨rfl, rfl⟩))))))))))))
theorem mask11_12 : Det G Try.prog 62 [.o (.int .i64 12)] [] (vI .u32 4293918720) [] := mask11 _ _ (.inr (.inr (.inr (.inr (.inr (.inr (.inr (.inr (.inr (.inr (.inr (.inr (.inl ⟨rfl, rfl⟩)))))))))))))
theorem mask11_13 : Det G Try.prog 62 [.o (.int .i64 13)] [] (vI .u32 4294443008) [] := mask11 _ _ (.inr (.inr (.inr (.inr (.inr (.inr (.inr (.inr (.inr (.inr (.inr (.inr (.inr (.inl ⟨rfl, rfl⟩))))))))))))))
theorem mask11_14 : Det G Try.prog 62 [.o (.int .i64 14)] [] (vI .u32 4294705152) [] := mask11 _ _ (.inr (.inr (.inr (.inr (.inr (.inr (.inr (.inr (.inr (.inr (.inr (.inr (.inr (.inr (.inl ⟨rfl, rfl⟩)))))))))))))))
theorem mask11_15 : Det G Try.prog 62 [.o (.int .i64 15)] [] (vI .u32 4294836224) [] := mask11 _ _ (.inr (.inr (.inr (.inr (.inr (.inr (.inr (.inr (.inr (.inr (.inr (.inr (.inr (.inr (.inr (.inl ⟨rfl, rfl⟩))))))))))))))))
theorem mask11_16 : Det G Try.prog 62 [.o (.int .i64 16)] [] (vI .u32 4294901760) [] := mask11 _ _ (.inr (.inr (.inr (.inr (.inr (.inr (.inr (.inr (.inr (.inr (.inr (.inr (.inr (.inr (.inr (.inr (.inl ⟨rfl, rfl⟩)))))))))))))))))
theorem mask11_17 : Det G Try.prog 62 [.o (.int .i64 17)] [] (vI .u32 4294934528) [] := mask11 _ _ (.inr (.inr (.inr (.inr (.inr (.inr (.inr (.inr (.inr (.inr (.inr (.inr (.inr (.inr (.inr (.inr (.inr (.inl ⟨rfl, rfl⟩))))))))))))))))))
theorem mask11_18 : Det G Try.prog 62 [.o (.int .i64 18)] [] (vI .u32 4294950912) [] := mask11 _ _ (.inr (.inr (.inr (.inr (.inr (.inr (.inr (.inr (.inr (.inr (.inr (.inr (.inr (.inr (.inr (.inr (.inr (.inr (.inl ⟨rfl, rfl⟩)))))))))))))))))))
theorem mask11_19 : Det G Try.prog 62 [.o (.int .i64 19)] [] (vI .u32 4294959104) [] := mask11 _ _ (.inr (.inr (.inr (.inr (.inr (.inr (.inr (.inr (.inr (.inr (.inr (.inr (.inr (.inr (.inr (.inr (.inr (.inr (.inr (.inl ⟨rfl, rfl⟩))))))))))))))))))))
theorem mask11_20 : Det G Try.prog 62 [.o (.int .i64 20)] [] (vI .u32 4294963200) [] := mask11 _ _ (.inr (.inr (.inr (.inr (.inr (.inr (.inr (.inr (.inr (.inr (.inr (.inr (.inr (.inr (.inr (.inr (.inr (.inr (.inr (.inr (.inl ⟨rfl, rfl⟩)))))))))))))))))))))
theorem mask11_21 : Det G Try.prog 62 [.o (.int .i64 21)] [] (vI .u32 4294965248) [] := mask11 _ _ (.inr (.inr (.inr (.inr (.inr (.inr (.inr (.inr (.inr (.inr (.inr (.inr (.inr (.inr (.inr (.inr (.inr (.inr (.inr (.inr (.inr (.inl ⟨rfl, rfl⟩))))))))))))))))))))))
theorem mask11_22 : Det G Try.prog 62 [.o (.int .i64 22)] [] (vI .u32 4294966272) [] := mask11 _ _ (.inr (.inr (.inr (.inr (.inr (.inr (.inr (.inr (.inr (.inr (.inr (.inr (.inr (.inr (.inr (.inr (.inr (.inr (.inr (.inr (.inr (.inr (.inl ⟨rfl, rfl⟩)))))))))))))))))))))))
theorem mask11_23 : Det G Try.prog 62 [.o (.int .i64 23)] [] (vI .u32 4294966784) [] := mask11 _ _ (.inr (.inr (.inr (.inr (.inr (.inr (.inr (.inr (.inr (.inr (.inr (.inr (.inr (.inr (.inr (.inr (.inr (.inr (.inr (.inr (.inr (.inr (.inr (.inl ⟨rfl, rfl⟩))))))))))))))))))))))))
theorem mask11_24 : Det G Try.prog 62 [.o (.int .i64 24)] [] (vI .u32 4294967040) [] := mask11 _ _ (.inr (.inr (.inr (.inr (.inr (.inr (.inr (.inr (.inr (.inr (.inr (.inr (.inr (.inr (.inr (.inr (.inr (.inr (.inr (.inr (.inr (.inr (.inr (.inr (.inl ⟨rfl, rfl⟩)))))))))))))))))))))))))
theorem mask11_25 : Det G Try.prog 62 [.o (.int .i64 25)] [] (vI .u32 4294967168) [] := mask11 _ _ (.inr (.inr (.inr (.inr (.inr (.inr (.inr (.inr (.inr (.inr (.inr (.inr (.inr (.inr (.inr (.inr (.inr (.inr (.inr (.inr (.inr (.inr (.inr (.inr (.inr (.inl ⟨rfl, rfl⟩))))))))))))))))))))))))))
theorem mask11_26 : Det G Try.prog 62 [.o (.int .i64 26)] [] (vI .u32 4294967232) [] := mask11 _ _ (.inr (.inr (.inr (.inr (.inr (.inr (.inr (.inr (.inr (.inr (.inr (.inr (.inr (.inr (.inr (.inr (.inr (.inr (.inr (.inr (.inr (.inr (.inr (.inr (.inr (.inr (.inl ⟨rfl, rfl⟩)))))))))))))))))))))))))))
theorem mask11_27 : Det G Try.prog 62 [.o (.int .i64 27)] [] (vI .u32 4294967264) [] := mask11 _ _ (.inr (.inr (.inr (.inr (.inr (.inr (.inr (.inr (.inr (.inr (.inr (.inr (.inr (.inr (.inr (.inr (.inr (.inr (.inr (.inr (.inr (.inr (.inr (.inr (.inr (.inr (.inr (.inl ⟨rfl, rfl⟩))))))))))))))))))))))))))))
theorem mask11_28 : Det G Try.prog 62 [.o (.int .i64 28)] [] (vI .u32 4294967280) [] := mask11 _ _ (.inr (.inr (.inr (.inr (.inr (.inr (.inr (.inr (.inr (.inr (.inr (.inr (.inr (.inr (.inr (.inr (.inr (.inr (.inr (.inr (.inr (.inr (.inr (.inr (.inr (.inr (.inr (.inr (.inl ⟨rfl, rfl⟩)))))))))))))))))))))))))))))
theorem mask11_29 : Det G Try.prog 62 [.o (.int .i64 29)] [] (vI .u32 4294967288) [] := mask11 _ _ (.inr (.inr (.inr (.inr (.inr (.inr (.inr (.inr (.inr (.inr (.inr (.inr (.inr (.inr (.inr (.inr (.inr (.inr (.inr (.inr (.inr (.inr (.inr (.inr (.inr (.inr (.inr (.inr (.inr (.inl ⟨rfl, rfl⟩))))))))))))))))))))))))))))))
theorem mask11_30 : Det G Try.prog 62 [.o (.int .i64 30)] [] (vI .u32 4294967292) [] := mask11 _ _ (.inr (.inr (.inr (.inr (.inr (.inr (.inr (.inr (.inr (.inr (.inr (.inr (.inr (.inr (.inr (.inr (.inr (.inr (.inr (.inr (.inr (.inr (.inr (.inr (.inr (.inr (.inr (.inr (.inr (.inr (.inl ⟨rfl, rfl⟩)))))))))))))))))))))))))))))))
theorem mask11_31 : Det G Try.prog 62 [.o (.int .i64 31)] [] (vI .u32 4294967294) [] := mask11 _ _ (.inr (.inr (.inr (.inr (.inr (.inr (.inr (.inr (.inr (.inr (.inr (.inr (.inr (.inr (.inr (.inr (.inr (.inr (.inr (.inr (.inr (.inr (.inr (.inr (.inr (.inr (.inr (.inr (.inr (.inr (.inr (.inl ⟨rfl, rfl⟩))))))))))))))))))))))))))))))))
theorem mask11_32 : Det G Try.prog 62 [.o (.int .i64 32)] [] (vI .u32 4294967295) [] := mask11 _ _ (.inr (.inr (.inr (.inr (.inr (.inr (.inr (.inr (.inr (.inr (.inr (.inr (.inr (.inr (.inr (.inr (.inr (.inr (.inr (.inr (.inr (.inr (.inr (.inr (.inr (.inr (.inr (.inr (.inr (.inr (.inr (.inr (⟨rfl, rfl⟩)))))))))))))))))))))))))))))))))
set_option maxHeartbeats 8000000 in
theorem new11 : Det G Try.prog 39 [] [] (vO (.ptr 0 0)) [.row true false [.mp 1], .map [] 0] := by
  refine can_of_W known mix Try.func39 (by kernel_rfl) ok_route_New (Nat.le_of_ble_eq_true rfl) ?_
  repeat' ((conv => whnf); first
    | ((with_reducible refine Look.mk ?_); refine ⟨_, rfl, ?_⟩)
    | ((with_reducible refine LookN.zeros ?_))
    | ((with_reducible refine LookN.bytes ?_ ?_); (simp; done))
    | ((with_reducible refine BytesW.bytes ?_))
    | ((with_reducible refine Look.byte ?_ ?_); omega)
    | ((with_reducible refine Look.setb ?_ ?_ ?_); exact bv8_bd _; omega)
    | ((with_reducible refine LookN.setb ?_ ?_ ?_); exact bv8_bd _; omega)
    | ((with_reducible refine LookN.mk ?_); refine ⟨_, rfl, ?_⟩)
    | ((with_reducible refine Need.mk ?_ ?_); first | ((with_reducible refine needB ?_); kernel_rfl) | with_reducible rfl | omega | (with_reducible refine ⟨rfl, ?_⟩; focus omega) | (simp only [ByteArray.size_append, size_lit, List.size_toArray, List.length_cons, List.length_nil]; omega) | exact rfl | trivial | exact Nat.le_of_ble_eq_true rfl | (exact ⟨rfl, by omega⟩) | (intro h; first | rfl | cases h) | (simp only [lenS_text, lenS_setN, lenS_zeros]; omega))
    | ((with_reducible refine BytesW.mk ?_); refine ⟨_, rfl, ?_⟩)
    | ((with_reducible refine WrT.same ?_ ?_); focus ((repeat ((conv => whnf); first | exact trivial | (apply And.intro; focus rfl))); done))
    | (with_reducible refine WrT.all ?_)
    | (with_reducible refine DropW.keep ?_)
    | ((with_reducible refine Test.dt ?_ ?_); focus decide +kernel)
    | ((with_reducible refine Test.df ?_ ?_); focus decide +kernel)
    | ((with_reducible refine Test.ieT ?_ ?_); focus decide +kernel)
    | ((with_reducible refine Test.ieF ?_ ?_); focus decide +kernel)
    | ((with_reducible refine Test.neT ?_ ?_); focus decide +kernel)
    | ((with_reducible refine Test.neF ?_ ?_); focus decide +kernel)
    | ((with_reducible refine Test.b ?_ ?_); focus decide +kernel)
    | ((with_reducible refine Test.nb ?_ ?_); focus decide +kernel)
    | ((with_reducible refine LookM.mk ?_); refine ⟨_, rfl, ?_⟩)
    | ((with_reducible refine PutM.mk ?_); refine ⟨_, _, rfl, ?_⟩)
    | ((with_reducible refine DropM.mk ?_); refine ⟨_, rfl, ?_⟩)
    | (with_reducible refine YldW.mk ⟨_, ycan_of_W known mix ?_, (fun _ _ h => h)⟩)
    | ((with_reducible apply YldD.run); (with_reducible apply (ycan_of_W known mix)))
    | (with_reducible exact ⟨rfl, rfl⟩)
    | (with_reducible refine LoopW.unroll (fun X hX => ?_))
    | (refine hX _ _ ?_)
    | ((with_reducible apply Arith.val); focus ((conv => lhs; simp [IntKind.wrap_u32, IntKind.wrap_u64, IntKind.wrap_i64, IntKind.wrap_u8, IntKind.bits]); exact rfl))
    | ((with_reducible refine Test.tmodEqT ?_ ?_ ?_); omega; focus first | omega | assumption)
    | ((with_reducible refine Test.tmodEqF ?_ ?_ ?_); omega; focus first | omega | assumption)
    | ((with_reducible refine Test.tmodNeT ?_ ?_ ?_); omega; focus first | omega | assumption)
    | ((with_reducible refine Test.tmodNeF ?_ ?_ ?_); omega; focus first | omega | assumption)
    | ((with_reducible refine Test.tmodEq ?_ (fun h => ?_) (fun h => ?_)); omega)
    | ((with_reducible refine Test.tmodNe ?_ (fun h => ?_) (fun h => ?_)); omega)
    | ((with_reducible refine Test.notT ?_ ?_); focus assumption)
    | ((with_reducible refine Test.notF ?_ ?_); focus assumption)
    | (with_reducible refine Test.notIe (fun h => ?_) (fun h => ?_))
    | (with_reducible refine Test.notD (fun h => ?_) (fun h => ?_))
    | ((with_reducible refine Test.empty (fun h => ?_) (fun h => ?_)))
    | (with_reducible refine Test.tt ?_)
    | (with_reducible refine Test.ff ?_)
    | ((with_reducible refine Test.dt ?_ ?_); omega)
    | ((with_reducible refine Test.df ?_ ?_); omega)
    | (with_reducible refine Test.d (fun h => ?_) (fun h => ?_))
    | ((with_reducible refine Test.ieT ?_ ?_); omega)
    | ((with_reducible refine Test.ieF ?_ ?_); omega)
    | ((with_reducible refine Test.neT ?_ ?_); omega)
    | ((with_reducible refine Test.neF ?_ ?_); omega)
    | (with_reducible refine Test.ie (fun h => ?_) (fun h => ?_))
    | (with_reducible refine Test.ne (fun h => ?_) (fun h => ?_))
    | ((with_reducible refine Test.b ?_ ?_); (focus first | assumption | (simp [negB]; done) | exact rfl))
    | ((with_reducible refine Test.nb ?_ ?_); (focus first | assumption | (simp [negB]; done) | exact rfl))
    | (with_reducible refine Test.notS (fun h => ?_) (fun h => ?_))
    | (with_reducible refine Test.mk (fun h => ?_) (fun h => ?_))
    | ((with_reducible refine Arith.tdiv ?_ ?_); omega)
    | (with_reducible refine Arith.bv8 ?_)
    | (with_reducible refine Arith.bv16 ?_)
    | (with_reducible refine Arith.bv32 ?_)
    | (with_reducible refine Arith.bv64 ?_)
    | ((with_reducible refine Arith.i64 ?_ ?_); omega)
    | ((with_reducible refine Arith.u64 ?_ ?_); omega)
    | ((with_reducible refine Arith.u32 ?_ ?_); omega)
    | ((with_reducible refine Arith.u16 ?_ ?_); omega)
    | ((with_reducible refine Arith.u8 ?_ ?_); omega)
    | ((with_reducible refine Arith.i32 ?_ ?_); omega)
    | (with_reducible refine Arith.mk ?_)
    | (with_reducible refine Ends.mk ?_))
  all_goals first | exact ⟨rfl, rfl⟩ | exact rfl
set_option maxHeartbeats 8000000 in
theorem add11_0 : Det G Try.prog 40 [.o (.ptr 0 0), .a [.int .u32 0, .int .i64 0, .int .u32 9, .int .i64 0, .int .u32 0]] [.row true false [.mp 1], .map [] 0] (vI .i64 0) [.row true false [.mp 1], .map [⟨.a [.int .u32 0, .int .i64 0], .a [.int .u32 0, .int .i64 0, .int .u32 9, .int .i64 0, .int .u32 0], 0⟩] 1] := by
  refine can_of_W known mix Try.func40 (by kernel_rfl) ok_route_Table__Add (Nat.le_of_ble_eq_true rfl) ?_
  repeat' ((conv => whnf); first
    | ((with_reducible refine Look.mk ?_); refine ⟨_, rfl, ?_⟩)
    | ((with_reducible refine LookN.zeros ?_))
    | ((with_reducible refine LookN.bytes ?_ ?_); (simp; done))
    | ((with_reducible refine BytesW.bytes ?_))
    | ((with_reducible refine Look.byte ?_ ?_); omega)
    | ((with_reducible refine Look.setb ?_ ?_ ?_); exact bv8_bd _; omega)
    | ((with_reducible refine LookN.setb ?_ ?_ ?_); exact bv8_bd _; omega)
    | ((with_reducible refine LookN.mk ?_); refine ⟨_, rfl, ?_⟩)
    | ((with_reducible refine Need.mk ?_ ?_); first | ((with_reducible refine needB ?_); kernel_rfl) | with_reducible rfl | omega | (with_reducible refine ⟨rfl, ?_⟩; focus omega) | (simp only [ByteArray.size_append, size_lit, List.size_toArray, List.length_cons, List.length_nil]; omega) | exact rfl | trivial | exact Nat.le_of_ble_eq_true rfl | (exact ⟨rfl, by omega⟩) | (intro h; first | rfl | cases h) | (simp only [lenS_text, lenS_setN, lenS_zeros]; omega))
    | ((with_reducible refine BytesW.mk ?_); refine ⟨_, rfl, ?_⟩)
    | (with_reducible refine CallW.det (mask11_0) ?_)
    | (with_reducible refine CallW.det (mask11_1) ?_)
    | (with_reducible refine CallW.det (mask11_2) ?_)
    | (with_reducible refine CallW.det (mask11_3) ?_)
    | (with_reducible refine CallW.det (mask11_4) ?_)
    | (with_reducible refine CallW.det (mask11_5) ?_)
    | (with_reducible refine CallW.det (mask11_6) ?_)
    | (with_reducible refine CallW.det (mask11_7) ?_)
    | (with_reducible refine CallW.det (mask11_8) ?_)
    | (with_reducible refine CallW.det (mask11_9) ?_)
    | (with_reducible refine CallW.det (mask11_10) ?_)
    | (with_reducible refine CallW.det (mask11_11) ?_)
    | (with_reducible refine CallW.det (mask11_12) ?_)
    | (with_reducible refine CallW.det (mask11_13) ?_)
    | (with_reducible refine CallW.det (mask11_14) ?_)
    | (with_reducible refine CallW.det (mask11_15) ?_)
    | (with_reducible refine CallW.det (mask11_16) ?_)
    | (with_reducible refine CallW.det (mask11_17) ?_)
    | (with_reducible refine CallW.det (mask11_18) ?_)
    | (with_reducible refine CallW.det (mask11_19) ?_)
    | (with_reducible refine CallW.det (mask11_20) ?_)
    | (with_reducible refine CallW.det (mask11_21) ?_)
    | (with_reducible refine CallW.det (mask11_22) ?_)
    | (with_reducible refine CallW.det (mask11_23) ?_)
    | (with_reducible refine CallW.det (mask11_24) ?_)
    | (with_reducible refine CallW.det (mask11_25) ?_)
    | (with_reducible refine CallW.det (mask11_26) ?_)
    | (with_reducible refine CallW.det (mask11_27) ?_)
    | (with_reducible refine CallW.det (mask11_28) ?_)
    | (with_reducible refine CallW.det (mask11_29) ?_)
    | (with_reducible refine CallW.det (mask11_30) ?_)
    | (with_reducible refine CallW.det (mask11_31) ?_)
    | (with_reducible refine CallW.det (mask11_32) ?_)
    | ((with_reducible refine WrT.same ?_ ?_); focus ((repeat ((conv => whnf); first | exact trivial | (apply And.intro; focus rfl))); done))
    | (with_reducible refine WrT.all ?_)
    | (with_reducible refine DropW.keep ?_)
    | ((with_reducible refine Test.dt ?_ ?_); focus decide +kernel)
    | ((with_reducible refine Test.df ?_ ?_); focus decide +kernel)
    | ((with_reducible refine Test.ieT ?_ ?_); focus decide +kernel)
    | ((with_reducible refine Test.ieF ?_ ?_); focus decide +kernel)
    | ((with_reducible refine Test.neT ?_ ?_); focus decide +kernel)
    | ((with_reducible refine Test.neF ?_ ?_); focus decide +kernel)
    | ((with_reducible refine Test.b ?_ ?_); focus decide +kernel)
    | ((with_reducible refine Test.nb ?_ ?_); focus decide +kernel)
    | ((with_reducible refine LookM.mk ?_); refine ⟨_, rfl, ?_⟩)
    | ((with_reducible refine PutM.mk ?_); refine ⟨_, _, rfl, ?_⟩)
    | ((with_reducible refine DropM.mk ?_); refine ⟨_, rfl, ?_⟩)
    | (with_reducible refine YldW.mk ⟨_, ycan_of_W known mix ?_, (fun _ _ h => h)⟩)
    | ((with_reducible apply YldD.run); (with_reducible apply (ycan_of_W known mix)))
    | (with_reducible exact ⟨rfl, rfl⟩)
    | (with_reducible refine LoopW.unroll (fun X hX => ?_))
    | (refine hX _ _ ?_)
    | ((with_reducible apply Arith.val); focus ((conv => lhs; simp [IntKind.wrap_u32, IntKind.wrap_u64, IntKind.wrap_i64, IntKind.wrap_u8, IntKind.bits]); exact rfl))
    | (with_reducible refine CallW.can (can_of_W known mix Try.func39 (by kernel_rfl) ok_route_New (Nat.le_of_ble_eq_true rfl) ?_) (fun _ _ h => h))
    | (with_reducible refine CallW.can (can_of_W known mix Try.func40 (by kernel_rfl) ok_route_Table__Add (Nat.le_of_ble_eq_true rfl) ?_) (fun _ _ h => h))
    | (with_reducible refine CallW.can (can_of_W known mix Try.func42 (by kernel_rfl) ok_route_Table__Drop (Nat.le_of_ble_eq_true rfl) ?_) (fun _ _ h => h))
    | (with_reducible refine CallW.can (can_of_W known mix Try.func44 (by kernel_rfl) ok_route_Table__Find (Nat.le_of_ble_eq_true rfl) ?_) (fun _ _ h => h))
    | (with_reducible refine CallW.can (can_of_W known mix Try.func61 (by kernel_rfl) ok_route_Table__none (Nat.le_of_ble_eq_true rfl) ?_) (fun _ _ h => h))
    | (with_reducible refine CallW.can (can_of_W known mix Try.func64 (by kernel_rfl) ok_route_prefixes (Nat.le_of_ble_eq_true rfl) ?_) (fun _ _ h => h))
    | (with_reducible refine CallW.can (can_of_W known mix Try.func75 (by kernel_rfl) ok_route_prefixes_1 (Nat.le_of_ble_eq_true rfl) ?_) (fun _ _ h => h))
    | ((with_reducible refine Test.tmodEqT ?_ ?_ ?_); omega; focus first | omega | assumption)
    | ((with_reducible refine Test.tmodEqF ?_ ?_ ?_); omega; focus first | omega | assumption)
    | ((with_reducible refine Test.tmodNeT ?_ ?_ ?_); omega; focus first | omega | assumption)
    | ((with_reducible refine Test.tmodNeF ?_ ?_ ?_); omega; focus first | omega | assumption)
    | ((with_reducible refine Test.tmodEq ?_ (fun h => ?_) (fun h => ?_)); omega)
    | ((with_reducible refine Test.tmodNe ?_ (fun h => ?_) (fun h => ?_)); omega)
    | ((with_reducible refine Test.notT ?_ ?_); focus assumption)
    | ((with_reducible refine Test.notF ?_ ?_); focus assumption)
    | (with_reducible refine Test.notIe (fun h => ?_) (fun h => ?_))
    | (with_reducible refine Test.notD (fun h => ?_) (fun h => ?_))
    | ((with_reducible refine Test.empty (fun h => ?_) (fun h => ?_)))
    | (with_reducible refine Test.tt ?_)
    | (with_reducible refine Test.ff ?_)
    | ((with_reducible refine Test.dt ?_ ?_); omega)
    | ((with_reducible refine Test.df ?_ ?_); omega)
    | (with_reducible refine Test.d (fun h => ?_) (fun h => ?_))
    | ((with_reducible refine Test.ieT ?_ ?_); omega)
    | ((with_reducible refine Test.ieF ?_ ?_); omega)
    | ((with_reducible refine Test.neT ?_ ?_); omega)
    | ((with_reducible refine Test.neF ?_ ?_); omega)
    | (with_reducible refine Test.ie (fun h => ?_) (fun h => ?_))
    | (with_reducible refine Test.ne (fun h => ?_) (fun h => ?_))
    | ((with_reducible refine Test.b ?_ ?_); (focus first | assumption | (simp [negB]; done) | exact rfl))
    | ((with_reducible refine Test.nb ?_ ?_); (focus first | assumption | (simp [negB]; done) | exact rfl))
    | (with_reducible refine Test.notS (fun h => ?_) (fun h => ?_))
    | (with_reducible refine Test.mk (fun h => ?_) (fun h => ?_))
    | ((with_reducible refine Arith.tdiv ?_ ?_); omega)
    | (with_reducible refine Arith.bv8 ?_)
    | (with_reducible refine Arith.bv16 ?_)
    | (with_reducible refine Arith.bv32 ?_)
    | (with_reducible refine Arith.bv64 ?_)
    | ((with_reducible refine Arith.i64 ?_ ?_); omega)
    | ((with_reducible refine Arith.u64 ?_ ?_); omega)
    | ((with_reducible refine Arith.u32 ?_ ?_); omega)
    | ((with_reducible refine Arith.u16 ?_ ?_); omega)
    | ((with_reducible refine Arith.u8 ?_ ?_); omega)
    | ((with_reducible refine Arith.i32 ?_ ?_); omega)
    | (with_reducible refine Arith.mk ?_)
    | (with_reducible refine Ends.mk ?_))
  all_goals first | exact ⟨rfl, rfl⟩ | exact rfl
set_option maxHeartbeats 8000000 in
theorem add11_1 : Det G Try.prog 40 [.o (.ptr 0 0), .a [.int .u32 167837696, .int .i64 16, .int .u32 0, .int .i64 1, .int .u32 0]] [.row true false [.mp 1], .map [⟨.a [.int .u32 0, .int .i64 0], .a [.int .u32 0, .int .i64 0, .int .u32 9, .int .i64 0, .int .u32 0], 0⟩] 1] (vI .i64 0) [.row true false [.mp 1], .map [⟨.a [.int .u32 0, .int .i64 0], .a [.int .u32 0, .int .i64 0, .int .u32 9, .int .i64 0, .int .u32 0], 0⟩, ⟨.a [.int .u32 167837696, .int .i64 16], .a [.int .u32 167837696, .int .i64 16, .int .u32 0, .int .i64 1, .int .u32 0], 1⟩] 2] := by
  refine can_of_W known mix Try.func40 (by kernel_rfl) ok_route_Table__Add (Nat.le_of_ble_eq_true rfl) ?_
  repeat' ((conv => whnf); first
    | ((with_reducible refine Look.mk ?_); refine ⟨_, rfl, ?_⟩)
    | ((with_reducible refine LookN.zeros ?_))
    | ((with_reducible refine LookN.bytes ?_ ?_); (simp; done))
    | ((with_reducible refine BytesW.bytes ?_))
    | ((with_reducible refine Look.byte ?_ ?_); omega)
    | ((with_reducible refine Look.setb ?_ ?_ ?_); exact bv8_bd _; omega)
    | ((with_reducible refine LookN.setb ?_ ?_ ?_); exact bv8_bd _; omega)
    | ((with_reducible refine LookN.mk ?_); refine ⟨_, rfl, ?_⟩)
    | ((with_reducible refine Need.mk ?_ ?_); first | ((with_reducible refine needB ?_); kernel_rfl) | with_reducible rfl | omega | (with_reducible refine ⟨rfl, ?_⟩; focus omega) | (simp only [ByteArray.size_append, size_lit, List.size_toArray, List.length_cons, List.length_nil]; omega) | exact rfl | trivial | exact Nat.le_of_ble_eq_true rfl | (exact ⟨rfl, by omega⟩) | (intro h; first | rfl | cases h) | (simp only [lenS_text, lenS_setN, lenS_zeros]; omega))
    | ((with_reducible refine BytesW.mk ?_); refine ⟨_, rfl, ?_⟩)
    | (with_reducible refine CallW.det (mask11_0) ?_)
    | (with_reducible refine CallW.det (mask11_1) ?_)
    | (with_reducible refine CallW.det (mask11_2) ?_)
    | (with_reducible refine CallW.det (mask11_3) ?_)
    | (with_reducible refine CallW.det (mask11_4) ?_)
    | (with_reducible refine CallW.det (mask11_5) ?_)
    | (with_reducible refine CallW.det (mask11_6) ?_)
    | (with_reducible refine CallW.det (mask11_7) ?_)
    | (with_reducible refine CallW.det (mask11_8) ?_)
    | (with_reducible refine CallW.det (mask11_9) ?_)
    | (with_reducible refine CallW.det (mask11_10) ?_)
    | (with_reducible refine CallW.det (mask11_11) ?_)
    | (with_reducible refine CallW.det (mask11_12) ?_)
    | (with_reducible refine CallW.det (mask11_13) ?_)
    | (with_reducible refine CallW.det (mask11_14) ?_)
    | (with_reducible refine CallW.det (mask11_15) ?_)
    | (with_reducible refine CallW.det (mask11_16) ?_)
    | (with_reducible refine CallW.det (mask11_17) ?_)
    | (with_reducible refine CallW.det (mask11_18) ?_)
    | (with_reducible refine CallW.det (mask11_19) ?_)
    | (with_reducible refine CallW.det (mask11_20) ?_)
    | (with_reducible refine CallW.det (mask11_21) ?_)
    | (with_reducible refine CallW.det (mask11_22) ?_)
    | (with_reducible refine CallW.det (mask11_23) ?_)
    | (with_reducible refine CallW.det (mask11_24) ?_)
    | (with_reducible refine CallW.det (mask11_25) ?_)
    | (with_reducible refine CallW.det (mask11_26) ?_)
    | (with_reducible refine CallW.det (mask11_27) ?_)
    | (with_reducible refine CallW.det (mask11_28) ?_)
    | (with_reducible refine CallW.det (mask11_29) ?_)
    | (with_reducible refine CallW.det (mask11_30) ?_)
    | (with_reducible refine CallW.det (mask11_31) ?_)
    | (with_reducible refine CallW.det (mask11_32) ?_)
    | ((with_reducible refine WrT.same ?_ ?_); focus ((repeat ((conv => whnf); first | exact trivial | (apply And.intro; focus rfl))); done))
    | (with_reducible refine WrT.all ?_)
    | (with_reducible refine DropW.keep ?_)
    | ((with_reducible refine Test.dt ?_ ?_); focus decide +kernel)
    | ((with_reducible refine Test.df ?_ ?_); focus decide +kernel)
    | ((with_reducible refine Test.ieT ?_ ?_); focus decide +kernel)
    | ((with_reducible refine Test.ieF ?_ ?_); focus decide +kernel)
    | ((with_reducible refine Test.neT ?_ ?_); focus decide +kernel)
    | ((with_reducible refine Test.neF ?_ ?_); focus decide +kernel)
    | ((with_reducible refine Test.b ?_ ?_); focus decide +kernel)
    | ((with_reducible refine Test.nb ?_ ?_); focus decide +kernel)
    | ((with_reducible refine LookM.mk ?_); refine ⟨_, rfl, ?_⟩)
    | ((with_reducible refine PutM.mk ?_); refine ⟨_, _, rfl, ?_⟩)
    | ((with_reducible refine DropM.mk ?_); refine ⟨_, rfl, ?_⟩)
    | (with_reducible refine YldW.mk ⟨_, ycan_of_W known mix ?_, (fun _ _ h => h)⟩)
    | ((with_reducible apply YldD.run); (with_reducible apply (ycan_of_W known mix)))
    | (with_reducible exact ⟨rfl, rfl⟩)
    | (with_reducible refine LoopW.unroll (fun X hX => ?_))
    | (refine hX _ _ ?_)
    | ((with_reducible apply Arith.val); focus ((conv => lhs; simp [IntKind.wrap_u32, IntKind.wrap_u64, IntKind.wrap_i64, IntKind.wrap_u8, IntKind.bits]); exact rfl))
    | (with_reducible refine CallW.can (can_of_W known mix Try.func39 (by kernel_rfl) ok_route_New (Nat.le_of_ble_eq_true rfl) ?_) (fun _ _ h => h))
    | (with_reducible refine CallW.can (can_of_W known mix Try.func40 (by kernel_rfl) ok_route_Table__Add (Nat.le_of_ble_eq_true rfl) ?_) (fun _ _ h => h))
    | (with_reducible refine CallW.can (can_of_W known mix Try.func42 (by kernel_rfl) ok_route_Table__Drop (Nat.le_of_ble_eq_true rfl) ?_) (fun _ _ h => h))
    | (with_reducible refine CallW.can (can_of_W known mix Try.func44 (by kernel_rfl) ok_route_Table__Find (Nat.le_of_ble_eq_true rfl) ?_) (fun _ _ h => h))
    | (with_reducible refine CallW.can (can_of_W known mix Try.func61 (by kernel_rfl) ok_route_Table__none (Nat.le_of_ble_eq_true rfl) ?_) (fun _ _ h => h))
    | (with_reducible refine CallW.can (can_of_W known mix Try.func64 (by kernel_rfl) ok_route_prefixes (Nat.le_of_ble_eq_true rfl) ?_) (fun _ _ h => h))
    | (with_reducible refine CallW.can (can_of_W known mix Try.func75 (by kernel_rfl) ok_route_prefixes_1 (Nat.le_of_ble_eq_true rfl) ?_) (fun _ _ h => h))
    | ((with_reducible refine Test.tmodEqT ?_ ?_ ?_); omega; focus first | omega | assumption)
    | ((with_reducible refine Test.tmodEqF ?_ ?_ ?_); omega; focus first | omega | assumption)
    | ((with_reducible refine Test.tmodNeT ?_ ?_ ?_); omega; focus first | omega | assumption)
    | ((with_reducible refine Test.tmodNeF ?_ ?_ ?_); omega; focus first | omega | assumption)
    | ((with_reducible refine Test.tmodEq ?_ (fun h => ?_) (fun h => ?_)); omega)
    | ((with_reducible refine Test.tmodNe ?_ (fun h => ?_) (fun h => ?_)); omega)
    | ((with_reducible refine Test.notT ?_ ?_); focus assumption)
    | ((with_reducible refine Test.notF ?_ ?_); focus assumption)
    | (with_reducible refine Test.notIe (fun h => ?_) (fun h => ?_))
    | (with_reducible refine Test.notD (fun h => ?_) (fun h => ?_))
    | ((with_reducible refine Test.empty (fun h => ?_) (fun h => ?_)))
    | (with_reducible refine Test.tt ?_)
    | (with_reducible refine Test.ff ?_)
    | ((with_reducible refine Test.dt ?_ ?_); omega)
    | ((with_reducible refine Test.df ?_ ?_); omega)
    | (with_reducible refine Test.d (fun h => ?_) (fun h => ?_))
    | ((with_reducible refine Test.ieT ?_ ?_); omega)
    | ((with_reducible refine Test.ieF ?_ ?_); omega)
    | ((with_reducible refine Test.neT ?_ ?_); omega)
    | ((with_reducible refine Test.neF ?_ ?_); omega)
    | (with_reducible refine Test.ie (fun h => ?_) (fun h => ?_))
    | (with_reducible refine Test.ne (fun h => ?_) (fun h => ?_))
    | ((with_reducible refine Test.b ?_ ?_); (focus first | assumption | (simp [negB]; done) | exact rfl))
    | ((with_reducible refine Test.nb ?_ ?_); (focus first | assumption | (simp [negB]; done) | exact rfl))
    | (with_reducible refine Test.notS (fun h => ?_) (fun h => ?_))
    | (with_reducible refine Test.mk (fun h => ?_) (fun h => ?_))
    | ((with_reducible refine Arith.tdiv ?_ ?_); omega)
    | (with_reducible refine Arith.bv8 ?_)
    | (with_reducible refine Arith.bv16 ?_)
    | (with_reducible refine Arith.bv32 ?_)
    | (with_reducible refine Arith.bv64 ?_)
    | ((with_reducible refine Arith.i64 ?_ ?_); omega)
    | ((with_reducible refine Arith.u64 ?_ ?_); omega)
    | ((with_reducible refine Arith.u32 ?_ ?_); omega)
    | ((with_reducible refine Arith.u16 ?_ ?_); omega)
    | ((with_reducible refine Arith.u8 ?_ ?_); omega)
    | ((with_reducible refine Arith.i32 ?_ ?_); omega)
    | (with_reducible refine Arith.mk ?_)
    | (with_reducible refine Ends.mk ?_))
  all_goals first | exact ⟨rfl, rfl⟩ | exact rfl
set_option maxHeartbeats 8000000 in
theorem add11_2 : Det G Try.prog 40 [.o (.ptr 0 0), .a [.int .u32 167838212, .int .i64 32, .int .u32 0, .int .i64 2, .int .u32 0]] [.row true false [.mp 1], .map [⟨.a [.int .u32 0, .int .i64 0], .a [.int .u32 0, .int .i64 0, .int .u32 9, .int .i64 0, .int .u32 0], 0⟩, ⟨.a [.int .u32 167837696, .int .i64 16], .a [.int .u32 167837696, .int .i64 16, .int .u32 0, .int .i64 1, .int .u32 0], 1⟩] 2] (vI .i64 0) [.row true false [.mp 1], .map [⟨.a [.int .u32 0, .int .i64 0], .a [.int .u32 0, .int .i64 0, .int .u32 9, .int .i64 0, .int .u32 0], 0⟩, ⟨.a [.int .u32 167837696, .int .i64 16], .a [.int .u32 167837696, .int .i64 16, .int .u32 0, .int .i64 1, .int .u32 0], 1⟩, ⟨.a [.int .u32 167838212, .int .i64 32], .a [.int .u32 167838212, .int .i64 32, .int .u32 0, .int .i64 2, .int .u32 0], 2⟩] 3] := by
  refine can_of_W known mix Try.func40 (by kernel_rfl) ok_route_Table__Add (Nat.le_of_ble_eq_true rfl) ?_
  repeat' ((conv => whnf); first
    | ((with_reducible refine Look.mk ?_); refine ⟨_, rfl, ?_⟩)
    | ((with_reducible refine LookN.zeros ?_))
    | ((with_reducible refine LookN.bytes ?_ ?_); (simp; done))
    | ((with_reducible refine BytesW.bytes ?_))
    | ((with_reducible refine Look.byte ?_ ?_); omega)
    | ((with_reducible refine Look.setb ?_ ?_ ?_); exact bv8_bd _; omega)
    | ((with_reducible refine LookN.setb ?_ ?_ ?_); exact bv8_bd _; omega)
    | ((with_reducible refine LookN.mk ?_); refine ⟨_, rfl, ?_⟩)
    | ((with_reducible refine Need.mk ?_ ?_); first | ((with_reducible refine needB ?_); kernel_rfl) | with_reducible rfl | omega | (with_reducible refine ⟨rfl, ?_⟩; focus omega) | (simp only [ByteArray.size_append, size_lit, List.size_toArray, List.length_cons, List.length_nil]; omega) | exact rfl | trivial | exact Nat.le_of_ble_eq_true rfl | (exact ⟨rfl, by omega⟩) | (intro h; first | rfl | cases h) | (simp only [lenS_text, lenS_setN, lenS_zeros]; omega))
    | ((with_reducible refine BytesW.mk ?_); refine ⟨_, rfl, ?_⟩)
    | (with_reducible refine CallW.det (mask11_0) ?_)
    | (with_reducible refine CallW.det (mask11_1) ?_)
    | (with_reducible refine CallW.det (mask11_2) ?_)
    | (with_reducible refine CallW.det (mask11_3) ?_)
    | (with_reducible refine CallW.det (mask11_4) ?_)
    | (with_reducible refine CallW.det (mask11_5) ?_)
    | (with_reducible refine CallW.det (mask11_6) ?_)
    | (with_reducible refine CallW.det (mask11_7) ?_)
    | (with_reducible refine CallW.det (mask11_8) ?_)
    | (with_reducible refine CallW.det (mask11_9) ?_)
    | (with_reducible refine CallW.det (mask11_10) ?_)
    | (with_reducible refine CallW.det (mask11_11) ?_)
    | (with_reducible refine CallW.det (mask11_12) ?_)
    | (with_reducible refine CallW.det (mask11_13) ?_)
    | (with_reducible refine CallW.det (mask11_14) ?_)
    | (with_reducible refine CallW.det (mask11_15) ?_)
    | (with_reducible refine CallW.det (mask11_16) ?_)
    | (with_reducible refine CallW.det (mask11_17) ?_)
    | (with_reducible refine CallW.det (mask11_18) ?_)
    | (with_reducible refine CallW.det (mask11_19) ?_)
    | (with_reducible refine CallW.det (mask11_20) ?_)
    | (with_reducible refine CallW.det (mask11_21) ?_)
    | (with_reducible refine CallW.det (mask11_22) ?_)
    | (with_reducible refine CallW.det (mask11_23) ?_)
    | (with_reducible refine CallW.det (mask11_24) ?_)
    | (with_reducible refine CallW.det (mask11_25) ?_)
    | (with_reducible refine CallW.det (mask11_26) ?_)
    | (with_reducible refine CallW.det (mask11_27) ?_)
    | (with_reducible refine CallW.det (mask11_28) ?_)
    | (with_reducible refine CallW.det (mask11_29) ?_)
    | (with_reducible refine CallW.det (mask11_30) ?_)
    | (with_reducible refine CallW.det (mask11_31) ?_)
    | (with_reducible refine CallW.det (mask11_32) ?_)
    | ((with_reducible refine WrT.same ?_ ?_); focus ((repeat ((conv => whnf); first | exact trivial | (apply And.intro; focus rfl))); done))
    | (with_reducible refine WrT.all ?_)
    | (with_reducible refine DropW.keep ?_)
    | ((with_reducible refine Test.dt ?_ ?_); focus decide +kernel)
    | ((with_reducible refine Test.df ?_ ?_); focus decide +kernel)
    | ((with_reducible refine Test.ieT ?_ ?_); focus decide +kernel)
    | ((with_reducible refine Test.ieF ?_ ?_); focus decide +kernel)
    | ((with_reducible refine Test.neT ?_ ?_); focus decide +kernel)
    | ((with_reducible refine Test.neF ?_ ?_); focus decide +kernel)
    | ((with_reducible refine Test.b ?_ ?_); focus decide +kernel)
    | ((with_reducible refine Test.nb ?_ ?_); focus decide +kernel)
    | ((with_reducible refine LookM.mk ?_); refine ⟨_, rfl, ?_⟩)
    | ((with_reducible refine PutM.mk ?_); refine ⟨_, _, rfl, ?_⟩)
    | ((with_reducible refine DropM.mk ?_); refine ⟨_, rfl, ?_⟩)
    | (with_reducible refine YldW.mk ⟨_, ycan_of_W known mix ?_, (fun _ _ h => h)⟩)
    | ((with_reducible apply YldD.run); (with_reducible apply (ycan_of_W known mix)))
    | (with_reducible exact ⟨rfl, rfl⟩)
    | (with_reducible refine LoopW.unroll (fun X hX => ?_))
    | (refine hX _ _ ?_)
    | ((with_reducible apply Arith.val); focus ((conv => lhs; simp [IntKind.wrap_u32, IntKind.wrap_u64, IntKind.wrap_i64, IntKind.wrap_u8, IntKind.bits]); exact rfl))
    | (with_reducible refine CallW.can (can_of_W known mix Try.func39 (by kernel_rfl) ok_route_New (Nat.le_of_ble_eq_true rfl) ?_) (fun _ _ h => h))
    | (with_reducible refine CallW.can (can_of_W known mix Try.func40 (by kernel_rfl) ok_route_Table__Add (Nat.le_of_ble_eq_true rfl) ?_) (fun _ _ h => h))
    | (with_reducible refine CallW.can (can_of_W known mix Try.func42 (by kernel_rfl) ok_route_Table__Drop (Nat.le_of_ble_eq_true rfl) ?_) (fun _ _ h => h))
    | (with_reducible refine CallW.can (can_of_W known mix Try.func44 (by kernel_rfl) ok_route_Table__Find (Nat.le_of_ble_eq_true rfl) ?_) (fun _ _ h => h))
    | (with_reducible refine CallW.can (can_of_W known mix Try.func61 (by kernel_rfl) ok_route_Table__none (Nat.le_of_ble_eq_true rfl) ?_) (fun _ _ h => h))
    | (with_reducible refine CallW.can (can_of_W known mix Try.func64 (by kernel_rfl) ok_route_prefixes (Nat.le_of_ble_eq_true rfl) ?_) (fun _ _ h => h))
    | (with_reducible refine CallW.can (can_of_W known mix Try.func75 (by kernel_rfl) ok_route_prefixes_1 (Nat.le_of_ble_eq_true rfl) ?_) (fun _ _ h => h))
    | ((with_reducible refine Test.tmodEqT ?_ ?_ ?_); omega; focus first | omega | assumption)
    | ((with_reducible refine Test.tmodEqF ?_ ?_ ?_); omega; focus first | omega | assumption)
    | ((with_reducible refine Test.tmodNeT ?_ ?_ ?_); omega; focus first | omega | assumption)
    | ((with_reducible refine Test.tmodNeF ?_ ?_ ?_); omega; focus first | omega | assumption)
    | ((with_reducible refine Test.tmodEq ?_ (fun h => ?_) (fun h => ?_)); omega)
    | ((with_reducible refine Test.tmodNe ?_ (fun h => ?_) (fun h => ?_)); omega)
    | ((with_reducible refine Test.notT ?_ ?_); focus assumption)
    | ((with_reducible refine Test.notF ?_ ?_); focus assumption)
    | (with_reducible refine Test.notIe (fun h => ?_) (fun h => ?_))
    | (with_reducible refine Test.notD (fun h => ?_) (fun h => ?_))
    | ((with_reducible refine Test.empty (fun h => ?_) (fun h => ?_)))
    | (with_reducible refine Test.tt ?_)
    | (with_reducible refine Test.ff ?_)
    | ((with_reducible refine Test.dt ?_ ?_); omega)
    | ((with_reducible refine Test.df ?_ ?_); omega)
    | (with_reducible refine Test.d (fun h => ?_) (fun h => ?_))
    | ((with_reducible refine Test.ieT ?_ ?_); omega)
    | ((with_reducible refine Test.ieF ?_ ?_); omega)
    | ((with_reducible refine Test.neT ?_ ?_); omega)
    | ((with_reducible refine Test.neF ?_ ?_); omega)
    | (with_reducible refine Test.ie (fun h => ?_) (fun h => ?_))
    | (with_reducible refine Test.ne (fun h => ?_) (fun h => ?_))
    | ((with_reducible refine Test.b ?_ ?_); (focus first | assumption | (simp [negB]; done) | exact rfl))
    | ((with_reducible refine Test.nb ?_ ?_); (focus first | assumption | (simp [negB]; done) | exact rfl))
    | (with_reducible refine Test.notS (fun h => ?_) (fun h => ?_))
    | (with_reducible refine Test.mk (fun h => ?_) (fun h => ?_))
    | ((with_reducible refine Arith.tdiv ?_ ?_); omega)
    | (with_reducible refine Arith.bv8 ?_)
    | (with_reducible refine Arith.bv16 ?_)
    | (with_reducible refine Arith.bv32 ?_)
    | (with_reducible refine Arith.bv64 ?_)
    | ((with_reducible refine Arith.i64 ?_ ?_); omega)
    | ((with_reducible refine Arith.u64 ?_ ?_); omega)
    | ((with_reducible refine Arith.u32 ?_ ?_); omega)
    | ((with_reducible refine Arith.u16 ?_ ?_); omega)
    | ((with_reducible refine Arith.u8 ?_ ?_); omega)
    | ((with_reducible refine Arith.i32 ?_ ?_); omega)
    | (with_reducible refine Arith.mk ?_)
    | (with_reducible refine Ends.mk ?_))
  all_goals first | exact ⟨rfl, rfl⟩ | exact rfl
set_option maxHeartbeats 8000000 in
theorem add11_3 : Det G Try.prog 40 [.o (.ptr 0 0), .a [.int .u32 1, .int .i64 16, .int .u32 0, .int .i64 0, .int .u32 0]] [.row true false [.mp 1], .map [⟨.a [.int .u32 0, .int .i64 0], .a [.int .u32 0, .int .i64 0, .int .u32 9, .int .i64 0, .int .u32 0], 0⟩, ⟨.a [.int .u32 167837696, .int .i64 16], .a [.int .u32 167837696, .int .i64 16, .int .u32 0, .int .i64 1, .int .u32 0], 1⟩, ⟨.a [.int .u32 167838212, .int .i64 32], .a [.int .u32 167838212, .int .i64 32, .int .u32 0, .int .i64 2, .int .u32 0], 2⟩] 3] (vI .i64 2) [.row true false [.mp 1], .map [⟨.a [.int .u32 0, .int .i64 0], .a [.int .u32 0, .int .i64 0, .int .u32 9, .int .i64 0, .int .u32 0], 0⟩, ⟨.a [.int .u32 167837696, .int .i64 16], .a [.int .u32 167837696, .int .i64 16, .int .u32 0, .int .i64 1, .int .u32 0], 1⟩, ⟨.a [.int .u32 167838212, .int .i64 32], .a [.int .u32 167838212, .int .i64 32, .int .u32 0, .int .i64 2, .int .u32 0], 2⟩] 3] := by
  refine can_of_W known mix Try.func40 (by kernel_rfl) ok_route_Table__Add (Nat.le_of_ble_eq_true rfl) ?_
  repeat' ((conv => whnf); first
    | ((with_reducible refine Look.mk ?_); refine ⟨_, rfl, ?_⟩)
    | ((with_reducible refine LookN.zeros ?_))
    | ((with_reducible refine LookN.bytes ?_ ?_); (simp; done))
    | ((with_reducible refine BytesW.bytes ?_))
    | ((with_reducible refine Look.byte ?_ ?_); omega)
    | ((with_reducible refine Look.setb ?_ ?_ ?_); exact bv8_bd _; omega)
    | ((with_reducible refine LookN.setb ?_ ?_ ?_); exact bv8_bd _; omega)
    | ((with_reducible refine LookN.mk ?_); refine ⟨_, rfl, ?_⟩)
    | ((with_reducible refine Need.mk ?_ ?_); first | ((with_reducible refine needB ?_); kernel_rfl) | with_reducible rfl | omega | (with_reducible refine ⟨rfl, ?_⟩; focus omega) | (simp only [ByteArray.size_append, size_lit, List.size_toArray, List.length_cons, List.length_nil]; omega) | exact rfl | trivial | exact Nat.le_of_ble_eq_true rfl | (exact ⟨rfl, by omega⟩) | (intro h; first | rfl | cases h) | (simp only [lenS_text, lenS_setN, lenS_zeros]; omega))
    | ((with_reducible refine BytesW.mk ?_); refine ⟨_, rfl, ?_⟩)
    | (with_reducible refine CallW.det (mask11_0) ?_)
    | (with_reducible refine CallW.det (mask11_1) ?_)
    | (with_reducible refine CallW.det (mask11_2) ?_)
    | (with_reducible refine CallW.det (mask11_3) ?_)
    | (with_reducible refine CallW.det (mask11_4) ?_)
    | (with_reducible refine CallW.det (mask11_5) ?_)
    | (with_reducible refine CallW.det (mask11_6) ?_)
    | (with_reducible refine CallW.det (mask11_7) ?_)
    | (with_reducible refine CallW.det (mask11_8) ?_)
    | (with_reducible refine CallW.det (mask11_9) ?_)
    | (with_reducible refine CallW.det (mask11_10) ?_)
    | (with_reducible refine CallW.det (mask11_11) ?_)
    | (with_reducible refine CallW.det (mask11_12) ?_)
    | (with_reducible refine CallW.det (mask11_13) ?_)
    | (with_reducible refine CallW.det (mask11_14) ?_)
    | (with_reducible refine CallW.det (mask11_15) ?_)
    | (with_reducible refine CallW.det (mask11_16) ?_)
    | (with_reducible refine CallW.det (mask11_17) ?_)
    | (with_reducible refine CallW.det (mask11_18) ?_)
    | (with_reducible refine CallW.det (mask11_19) ?_)
    | (with_reducible refine CallW.det (mask11_20) ?_)
    | (with_reducible refine CallW.det (mask11_21) ?_)
    | (with_reducible refine CallW.det (mask11_22) ?_)
    | (with_reducible refine CallW.det (mask11_23) ?_)
    | (with_reducible refine CallW.det (mask11_24) ?_)
    | (with_reducible refine CallW.det (mask11_25) ?_)
    | (with_reducible refine CallW.det (mask11_26) ?_)
    | (with_reducible refine CallW.det (mask11_27) ?_)
    | (with_reducible refine CallW.det (mask11_28) ?_)
    | (with_reducible refine CallW.det (mask11_29) ?_)
    | (with_reducible refine CallW.det (mask11_30) ?_)
    | (with_reducible refine CallW.det (mask11_31) ?_)
    | (with_reducible refine CallW.det (mask11_32) ?_)
    | ((with_reducible refine WrT.same ?_ ?_); focus ((repeat ((conv => whnf); first | exact trivial | (apply And.intro; focus rfl))); done))
    | (with_reducible refine WrT.all ?_)
    | (with_reducible refine DropW.keep ?_)
    | ((with_reducible refine Test.dt ?_ ?_); focus decide +kernel)
    | ((with_reducible refine Test.df ?_ ?_); focus decide +kernel)
    | ((with_reducible refine Test.ieT ?_ ?_); focus decide +kernel)
    | ((with_reducible refine Test.ieF ?_ ?_); focus decide +kernel)
    | ((with_reducible refine Test.neT ?_ ?_); focus decide +kernel)
    | ((with_reducible refine Test.neF ?_ ?_); focus decide +kernel)
    | ((with_reducible refine Test.b ?_ ?_); focus decide +kernel)
    | ((with_reducible refine Test.nb ?_ ?_); focus decide +kernel)
    | ((with_reducible refine LookM.mk ?_); refine ⟨_, rfl, ?_⟩)
    | ((with_reducible refine PutM.mk ?_); refine ⟨_, _, rfl, ?_⟩)
    | ((with_reducible refine DropM.mk ?_); refine ⟨_, rfl, ?_⟩)
    | (with_reducible refine YldW.mk ⟨_, ycan_of_W known mix ?_, (fun _ _ h => h)⟩)
    | ((with_reducible apply YldD.run); (with_reducible apply (ycan_of_W known mix)))
    | (with_reducible exact ⟨rfl, rfl⟩)
    | (with_reducible refine LoopW.unroll (fun X hX => ?_))
    | (refine hX _ _ ?_)
    | ((with_reducible apply Arith.val); focus ((conv => lhs; simp [IntKind.wrap_u32, IntKind.wrap_u64, IntKind.wrap_i64, IntKind.wrap_u8, IntKind.bits]); exact rfl))
    | (with_reducible refine CallW.can (can_of_W known mix Try.func39 (by kernel_rfl) ok_route_New (Nat.le_of_ble_eq_true rfl) ?_) (fun _ _ h => h))
    | (with_reducible refine CallW.can (can_of_W known mix Try.func40 (by kernel_rfl) ok_route_Table__Add (Nat.le_of_ble_eq_true rfl) ?_) (fun _ _ h => h))
    | (with_reducible refine CallW.can (can_of_W known mix Try.func42 (by kernel_rfl) ok_route_Table__Drop (Nat.le_of_ble_eq_true rfl) ?_) (fun _ _ h => h))
    | (with_reducible refine CallW.can (can_of_W known mix Try.func44 (by kernel_rfl) ok_route_Table__Find (Nat.le_of_ble_eq_true rfl) ?_) (fun _ _ h => h))
    | (with_reducible refine CallW.can (can_of_W known mix Try.func61 (by kernel_rfl) ok_route_Table__none (Nat.le_of_ble_eq_true rfl) ?_) (fun _ _ h => h))
    | (with_reducible refine CallW.can (can_of_W known mix Try.func64 (by kernel_rfl) ok_route_prefixes (Nat.le_of_ble_eq_true rfl) ?_) (fun _ _ h => h))
    | (with_reducible refine CallW.can (can_of_W known mix Try.func75 (by kernel_rfl) ok_route_prefixes_1 (Nat.le_of_ble_eq_true rfl) ?_) (fun _ _ h => h))
    | ((with_reducible refine Test.tmodEqT ?_ ?_ ?_); omega; focus first | omega | assumption)
    | ((with_reducible refine Test.tmodEqF ?_ ?_ ?_); omega; focus first | omega | assumption)
    | ((with_reducible refine Test.tmodNeT ?_ ?_ ?_); omega; focus first | omega | assumption)
    | ((with_reducible refine Test.tmodNeF ?_ ?_ ?_); omega; focus first | omega | assumption)
    | ((with_reducible refine Test.tmodEq ?_ (fun h => ?_) (fun h => ?_)); omega)
    | ((with_reducible refine Test.tmodNe ?_ (fun h => ?_) (fun h => ?_)); omega)
    | ((with_reducible refine Test.notT ?_ ?_); focus assumption)
    | ((with_reducible refine Test.notF ?_ ?_); focus assumption)
    | (with_reducible refine Test.notIe (fun h => ?_) (fun h => ?_))
    | (with_reducible refine Test.notD (fun h => ?_) (fun h => ?_))
    | ((with_reducible refine Test.empty (fun h => ?_) (fun h => ?_)))
    | (with_reducible refine Test.tt ?_)
    | (with_reducible refine Test.ff ?_)
    | ((with_reducible refine Test.dt ?_ ?_); omega)
    | ((with_reducible refine Test.df ?_ ?_); omega)
    | (with_reducible refine Test.d (fun h => ?_) (fun h => ?_))
    | ((with_reducible refine Test.ieT ?_ ?_); omega)
    | ((with_reducible refine Test.ieF ?_ ?_); omega)
    | ((with_reducible refine Test.neT ?_ ?_); omega)
    | ((with_reducible refine Test.neF ?_ ?_); omega)
    | (with_reducible refine Test.ie (fun h => ?_) (fun h => ?_))
    | (with_reducible refine Test.ne (fun h => ?_) (fun h => ?_))
    | ((with_reducible refine Test.b ?_ ?_); (focus first | assumption | (simp [negB]; done) | exact rfl))
    | ((with_reducible refine Test.nb ?_ ?_); (focus first | assumption | (simp [negB]; done) | exact rfl))
    | (with_reducible refine Test.notS (fun h => ?_) (fun h => ?_))
    | (with_reducible refine Test.mk (fun h => ?_) (fun h => ?_))
    | ((with_reducible refine Arith.tdiv ?_ ?_); omega)
    | (with_reducible refine Arith.bv8 ?_)
    | (with_reducible refine Arith.bv16 ?_)
    | (with_reducible refine Arith.bv32 ?_)
    | (with_reducible refine Arith.bv64 ?_)
    | ((with_reducible refine Arith.i64 ?_ ?_); omega)
    | ((with_reducible refine Arith.u64 ?_ ?_); omega)
    | ((with_reducible refine Arith.u32 ?_ ?_); omega)
    | ((with_reducible refine Arith.u16 ?_ ?_); omega)
    | ((with_reducible refine Arith.u8 ?_ ?_); omega)
    | ((with_reducible refine Arith.i32 ?_ ?_); omega)
    | (with_reducible refine Arith.mk ?_)
    | (with_reducible refine Ends.mk ?_))
  all_goals first | exact ⟨rfl, rfl⟩ | exact rfl
set_option maxHeartbeats 8000000 in
theorem drop11_0 : Det G Try.prog 42 [.o (.ptr 0 0), .o (.int .u32 167837696), .o (.int .i64 16)] [.row true false [.mp 1], .map [⟨.a [.int .u32 0, .int .i64 0], .a [.int .u32 0, .int .i64 0, .int .u32 9, .int .i64 0, .int .u32 0], 0⟩, ⟨.a [.int .u32 167837696, .int .i64 16], .a [.int .u32 167837696, .int .i64 16, .int .u32 0, .int .i64 1, .int .u32 0], 1⟩, ⟨.a [.int .u32 167838212, .int .i64 32], .a [.int .u32 167838212, .int .i64 32, .int .u32 0, .int .i64 2, .int .u32 0], 2⟩] 3] (vB true) [.row true false [.mp 1], .map [⟨.a [.int .u32 0, .int .i64 0], .a [.int .u32 0, .int .i64 0, .int .u32 9, .int .i64 0, .int .u32 0], 0⟩, ⟨.a [.int .u32 167838212, .int .i64 32], .a [.int .u32 167838212, .int .i64 32, .int .u32 0, .int .i64 2, .int .u32 0], 2⟩] 3] := by
  refine can_of_W known mix Try.func42 (by kernel_rfl) ok_route_Table__Drop (Nat.le_of_ble_eq_true rfl) ?_
  repeat' ((conv => whnf); first
    | ((with_reducible refine Look.mk ?_); refine ⟨_, rfl, ?_⟩)
    | ((with_reducible refine LookN.zeros ?_))
    | ((with_reducible refine LookN.bytes ?_ ?_); (simp; done))
    | ((with_reducible refine BytesW.bytes ?_))
    | ((with_reducible refine Look.byte ?_ ?_); omega)
    | ((with_reducible refine Look.setb ?_ ?_ ?_); exact bv8_bd _; omega)
    | ((with_reducible refine LookN.setb ?_ ?_ ?_); exact bv8_bd _; omega)
    | ((with_reducible refine LookN.mk ?_); refine ⟨_, rfl, ?_⟩)
    | ((with_reducible refine Need.mk ?_ ?_); first | ((with_reducible refine needB ?_); kernel_rfl) | with_reducible rfl | omega | (with_reducible refine ⟨rfl, ?_⟩; focus omega) | (simp only [ByteArray.size_append, size_lit, List.size_toArray, List.length_cons, List.length_nil]; omega) | exact rfl | trivial | exact Nat.le_of_ble_eq_true rfl | (exact ⟨rfl, by omega⟩) | (intro h; first | rfl | cases h) | (simp only [lenS_text, lenS_setN, lenS_zeros]; omega))
    | ((with_reducible refine BytesW.mk ?_); refine ⟨_, rfl, ?_⟩)
    | (with_reducible refine CallW.det (mask11_0) ?_)
    | (with_reducible refine CallW.det (mask11_1) ?_)
    | (with_reducible refine CallW.det (mask11_2) ?_)
    | (with_reducible refine CallW.det (mask11_3) ?_)
    | (with_reducible refine CallW.det (mask11_4) ?_)
    | (with_reducible refine CallW.det (mask11_5) ?_)
    | (with_reducible refine CallW.det (mask11_6) ?_)
    | (with_reducible refine CallW.det (mask11_7) ?_)
    | (with_reducible refine CallW.det (mask11_8) ?_)
    | (with_reducible refine CallW.det (mask11_9) ?_)
    | (with_reducible refine CallW.det (mask11_10) ?_)
    | (with_reducible refine CallW.det (mask11_11) ?_)
    | (with_reducible refine CallW.det (mask11_12) ?_)
    | (with_reducible refine CallW.det (mask11_13) ?_)
    | (with_reducible refine CallW.det (mask11_14) ?_)
    | (with_reducible refine CallW.det (mask11_15) ?_)
    | (with_reducible refine CallW.det (mask11_16) ?_)
    | (with_reducible refine CallW.det (mask11_17) ?_)
    | (with_reducible refine CallW.det (mask11_18) ?_)
    | (with_reducible refine CallW.det (mask11_19) ?_)
    | (with_reducible refine CallW.det (mask11_20) ?_)
    | (with_reducible refine CallW.det (mask11_21) ?_)
    | (with_reducible refine CallW.det (mask11_22) ?_)
    | (with_reducible refine CallW.det (mask11_23) ?_)
    | (with_reducible refine CallW.det (mask11_24) ?_)
    | (with_reducible refine CallW.det (mask11_25) ?_)
    | (with_reducible refine CallW.det (mask11_26) ?_)
    | (with_reducible refine CallW.det (mask11_27) ?_)
    | (with_reducible refine CallW.det (mask11_28) ?_)
    | (with_reducible refine CallW.det (mask11_29) ?_)
    | (with_reducible refine CallW.det (mask11_30) ?_)
    | (with_reducible refine CallW.det (mask11_31) ?_)
    | (with_reducible refine CallW.det (mask11_32) ?_)
    | ((with_reducible refine WrT.same ?_ ?_); focus ((repeat ((conv => whnf); first | exact trivial | (apply And.intro; focus rfl))); done))
    | (with_reducible refine WrT.all ?_)
    | (with_reducible refine DropW.keep ?_)
    | ((with_reducible refine Test.dt ?_ ?_); focus decide +kernel)
    | ((with_reducible refine Test.df ?_ ?_); focus decide +kernel)
    | ((with_reducible refine Test.ieT ?_ ?_); focus decide +kernel)
    | ((with_reducible refine Test.ieF ?_ ?_); focus decide +kernel)
    | ((with_reducible refine Test.neT ?_ ?_); focus decide +kernel)
    | ((with_reducible refine Test.neF ?_ ?_); focus decide +kernel)
    | ((with_reducible refine Test.b ?_ ?_); focus decide +kernel)
    | ((with_reducible refine Test.nb ?_ ?_); focus decide +kernel)
    | ((with_reducible refine LookM.mk ?_); refine ⟨_, rfl, ?_⟩)
    | ((with_reducible refine PutM.mk ?_); refine ⟨_, _, rfl, ?_⟩)
    | ((with_reducible refine DropM.mk ?_); refine ⟨_, rfl, ?_⟩)
    | (with_reducible refine YldW.mk ⟨_, ycan_of_W known mix ?_, (fun _ _ h => h)⟩)
    | ((with_reducible apply YldD.run); (with_reducible apply (ycan_of_W known mix)))
    | (with_reducible exact ⟨rfl, rfl⟩)
    | (with_reducible refine LoopW.unroll (fun X hX => ?_))
    | (refine hX _ _ ?_)
    | ((with_reducible apply Arith.val); focus ((conv => lhs; simp [IntKind.wrap_u32, IntKind.wrap_u64, IntKind.wrap_i64, IntKind.wrap_u8, IntKind.bits]); exact rfl))
    | (with_reducible refine CallW.can (can_of_W known mix Try.func39 (by kernel_rfl) ok_route_New (Nat.le_of_ble_eq_true rfl) ?_) (fun _ _ h => h))
    | (with_reducible refine CallW.can (can_of_W known mix Try.func40 (by kernel_rfl) ok_route_Table__Add (Nat.le_of_ble_eq_true rfl) ?_) (fun _ _ h => h))
    | (with_reducible refine CallW.can (can_of_W known mix Try.func42 (by kernel_rfl) ok_route_Table__Drop (Nat.le_of_ble_eq_true rfl) ?_) (fun _ _ h => h))
    | (with_reducible refine CallW.can (can_of_W known mix Try.func44 (by kernel_rfl) ok_route_Table__Find (Nat.le_of_ble_eq_true rfl) ?_) (fun _ _ h => h))
    | (with_reducible refine CallW.can (can_of_W known mix Try.func61 (by kernel_rfl) ok_route_Table__none (Nat.le_of_ble_eq_true rfl) ?_) (fun _ _ h => h))
    | (with_reducible refine CallW.can (can_of_W known mix Try.func64 (by kernel_rfl) ok_route_prefixes (Nat.le_of_ble_eq_true rfl) ?_) (fun _ _ h => h))
    | (with_reducible refine CallW.can (can_of_W known mix Try.func75 (by kernel_rfl) ok_route_prefixes_1 (Nat.le_of_ble_eq_true rfl) ?_) (fun _ _ h => h))
    | ((with_reducible refine Test.tmodEqT ?_ ?_ ?_); omega; focus first | omega | assumption)
    | ((with_reducible refine Test.tmodEqF ?_ ?_ ?_); omega; focus first | omega | assumption)
    | ((with_reducible refine Test.tmodNeT ?_ ?_ ?_); omega; focus first | omega | assumption)
    | ((with_reducible refine Test.tmodNeF ?_ ?_ ?_); omega; focus first | omega | assumption)
    | ((with_reducible refine Test.tmodEq ?_ (fun h => ?_) (fun h => ?_)); omega)
    | ((with_reducible refine Test.tmodNe ?_ (fun h => ?_) (fun h => ?_)); omega)
    | ((with_reducible refine Test.notT ?_ ?_); focus assumption)
    | ((with_reducible refine Test.notF ?_ ?_); focus assumption)
    | (with_reducible refine Test.notIe (fun h => ?_) (fun h => ?_))
    | (with_reducible refine Test.notD (fun h => ?_) (fun h => ?_))
    | ((with_reducible refine Test.empty (fun h => ?_) (fun h => ?_)))
    | (with_reducible refine Test.tt ?_)
    | (with_reducible refine Test.ff ?_)
    | ((with_reducible refine Test.dt ?_ ?_); omega)
    | ((with_reducible refine Test.df ?_ ?_); omega)
    | (with_reducible refine Test.d (fun h => ?_) (fun h => ?_))
    | ((with_reducible refine Test.ieT ?_ ?_); omega)
    | ((with_reducible refine Test.ieF ?_ ?_); omega)
    | ((with_reducible refine Test.neT ?_ ?_); omega)
    | ((with_reducible refine Test.neF ?_ ?_); omega)
    | (with_reducible refine Test.ie (fun h => ?_) (fun h => ?_))
    | (with_reducible refine Test.ne (fun h => ?_) (fun h => ?_))
    | ((with_reducible refine Test.b ?_ ?_); (focus first | assumption | (simp [negB]; done) | exact rfl))
    | ((with_reducible refine Test.nb ?_ ?_); (focus first | assumption | (simp [negB]; done) | exact rfl))
    | (with_reducible refine Test.notS (fun h => ?_) (fun h => ?_))
    | (with_reducible refine Test.mk (fun h => ?_) (fun h => ?_))
    | ((with_reducible refine Arith.tdiv ?_ ?_); omega)
    | (with_reducible refine Arith.bv8 ?_)
    | (with_reducible refine Arith.bv16 ?_)
    | (with_reducible refine Arith.bv32 ?_)
    | (with_reducible refine Arith.bv64 ?_)
    | ((with_reducible refine Arith.i64 ?_ ?_); omega)
    | ((with_reducible refine Arith.u64 ?_ ?_); omega)
    | ((with_reducible refine Arith.u32 ?_ ?_); omega)
    | ((with_reducible refine Arith.u16 ?_ ?_); omega)
    | ((with_reducible refine Arith.u8 ?_ ?_); omega)
    | ((with_reducible refine Arith.i32 ?_ ?_); omega)
    | (with_reducible refine Arith.mk ?_)
    | (with_reducible refine Ends.mk ?_))
  all_goals first | exact ⟨rfl, rfl⟩ | exact rfl
set_option maxHeartbeats 8000000 in
theorem drop11_1 : Det G Try.prog 42 [.o (.ptr 0 0), .o (.int .u32 167837696), .o (.int .i64 16)] [.row true false [.mp 1], .map [⟨.a [.int .u32 0, .int .i64 0], .a [.int .u32 0, .int .i64 0, .int .u32 9, .int .i64 0, .int .u32 0], 0⟩, ⟨.a [.int .u32 167838212, .int .i64 32], .a [.int .u32 167838212, .int .i64 32, .int .u32 0, .int .i64 2, .int .u32 0], 2⟩] 3] (vB false) [.row true false [.mp 1], .map [⟨.a [.int .u32 0, .int .i64 0], .a [.int .u32 0, .int .i64 0, .int .u32 9, .int .i64 0, .int .u32 0], 0⟩, ⟨.a [.int .u32 167838212, .int .i64 32], .a [.int .u32 167838212, .int .i64 32, .int .u32 0, .int .i64 2, .int .u32 0], 2⟩] 3] := by
  refine can_of_W known mix Try.func42 (by kernel_rfl) ok_route_Table__Drop (Nat.le_of_ble_eq_true rfl) ?_
  repeat' ((conv => whnf); first
    | ((with_reducible refine Look.mk ?_); refine ⟨_, rfl, ?_⟩)
    | ((with_reducible refine LookN.zeros ?_))
    | ((with_reducible refine LookN.bytes ?_ ?_); (simp; done))
    | ((with_reducible refine BytesW.bytes ?_))
    | ((with_reducible refine Look.byte ?_ ?_); omega)
    | ((with_reducible refine Look.setb ?_ ?_ ?_); exact bv8_bd _; omega)
    | ((with_reducible refine LookN.setb ?_ ?_ ?_); exact bv8_bd _; omega)
    | ((with_reducible refine LookN.mk ?_); refine ⟨_, rfl, ?_⟩)
    | ((with_reducible refine Need.mk ?_ ?_); first | ((with_reducible refine needB ?_); kernel_rfl) | with_reducible rfl | omega | (with_reducible refine ⟨rfl, ?_⟩; focus omega) | (simp only [ByteArray.size_append, size_lit, List.size_toArray, List.length_cons, List.length_nil]; omega) | exact rfl | trivial | exact Nat.le_of_ble_eq_true rfl | (exact ⟨rfl, by omega⟩) | (intro h; first | rfl | cases h) | (simp only [lenS_text, lenS_setN, lenS_zeros]; omega))
    | ((with_reducible refine BytesW.mk ?_); refine ⟨_, rfl, ?_⟩)
    | (with_reducible refine CallW.det (mask11_0) ?_)
    | (with_reducible refine CallW.det (mask11_1) ?_)
    | (with_reducible refine CallW.det (mask11_2) ?_)
    | (with_reducible refine CallW.det (mask11_3) ?_)
    | (with_reducible refine CallW.det (mask11_4) ?_)
    | (with_reducible refine CallW.det (mask11_5) ?_)
    | (with_reducible refine CallW.det (mask11_6) ?_)
    | (with_reducible refine CallW.det (mask11_7) ?_)
    | (with_reducible refine CallW.det (mask11_8) ?_)
    | (with_reducible refine CallW.det (mask11_9) ?_)
    | (with_reducible refine CallW.det (mask11_10) ?_)
    | (with_reducible refine CallW.det (mask11_11) ?_)
    | (with_reducible refine CallW.det (mask11_12) ?_)
    | (with_reducible refine CallW.det (mask11_13) ?_)
    | (with_reducible refine CallW.det (mask11_14) ?_)
    | (with_reducible refine CallW.det (mask11_15) ?_)
    | (with_reducible refine CallW.det (mask11_16) ?_)
    | (with_reducible refine CallW.det (mask11_17) ?_)
    | (with_reducible refine CallW.det (mask11_18) ?_)
    | (with_reducible refine CallW.det (mask11_19) ?_)
    | (with_reducible refine CallW.det (mask11_20) ?_)
    | (with_reducible refine CallW.det (mask11_21) ?_)
    | (with_reducible refine CallW.det (mask11_22) ?_)
    | (with_reducible refine CallW.det (mask11_23) ?_)
    | (with_reducible refine CallW.det (mask11_24) ?_)
    | (with_reducible refine CallW.det (mask11_25) ?_)
    | (with_reducible refine CallW.det (mask11_26) ?_)
    | (with_reducible refine CallW.det (mask11_27) ?_)
    | (with_reducible refine CallW.det (mask11_28) ?_)
    | (with_reducible refine CallW.det (mask11_29) ?_)
    | (with_reducible refine CallW.det (mask11_30) ?_)
    | (with_reducible refine CallW.det (mask11_31) ?_)
    | (with_reducible refine CallW.det (mask11_32) ?_)
    | ((with_reducible refine WrT.same ?_ ?_); focus ((repeat ((conv => whnf); first | exact trivial | (apply And.intro; focus rfl))); done))
    | (with_reducible refine WrT.all ?_)
    | (with_reducible refine DropW.keep ?_)
    | ((with_reducible refine Test.dt ?_ ?_); focus decide +kernel)
    | ((with_reducible refine Test.df ?_ ?_); focus decide +kernel)
    | ((with_reducible refine Test.ieT ?_ ?_); focus decide +kernel)
    | ((with_reducible refine Test.ieF ?_ ?_); focus decide +kernel)
    | ((with_reducible refine Test.neT ?_ ?_); focus decide +kernel)
    | ((with_reducible refine Test.neF ?_ ?_); focus decide +kernel)
    | ((with_reducible refine Test.b ?_ ?_); focus decide +kernel)
    | ((with_reducible refine Test.nb ?_ ?_); focus decide +kernel)
    | ((with_reducible refine LookM.mk ?_); refine ⟨_, rfl, ?_⟩)
    | ((with_reducible refine PutM.mk ?_); refine ⟨_, _, rfl, ?_⟩)
    | ((with_reducible refine DropM.mk ?_); refine ⟨_, rfl, ?_⟩)
    | (with_reducible refine YldW.mk ⟨_, ycan_of_W known mix ?_, (fun _ _ h => h)⟩)
    | ((with_reducible apply YldD.run); (with_reducible apply (ycan_of_W known mix)))
    | (with_reducible exact ⟨rfl, rfl⟩)
    | (with_reducible refine LoopW.unroll (fun X hX => ?_))
    | (refine hX _ _ ?_)
    | ((with_reducible apply Arith.val); focus ((conv => lhs; simp [IntKind.wrap_u32, IntKind.wrap_u64, IntKind.wrap_i64, IntKind.wrap_u8, IntKind.bits]); exact rfl))
    | (with_reducible refine CallW.can (can_of_W known mix Try.func39 (by kernel_rfl) ok_route_New (Nat.le_of_ble_eq_true rfl) ?_) (fun _ _ h => h))
    | (with_reducible refine CallW.can (can_of_W known mix Try.func40 (by kernel_rfl) ok_route_Table__Add (Nat.le_of_ble_eq_true rfl) ?_) (fun _ _ h => h))
    | (with_reducible refine CallW.can (can_of_W known mix Try.func42 (by kernel_rfl) ok_route_Table__Drop (Nat.le_of_ble_eq_true rfl) ?_) (fun _ _ h => h))
    | (with_reducible refine CallW.can (can_of_W known mix Try.func44 (by kernel_rfl) ok_route_Table__Find (Nat.le_of_ble_eq_true rfl) ?_) (fun _ _ h => h))
    | (with_reducible refine CallW.can (can_of_W known mix Try.func61 (by kernel_rfl) ok_route_Table__none (Nat.le_of_ble_eq_true rfl) ?_) (fun _ _ h => h))
    | (with_reducible refine CallW.can (can_of_W known mix Try.func64 (by kernel_rfl) ok_route_prefixes (Nat.le_of_ble_eq_true rfl) ?_) (fun _ _ h => h))
    | (with_reducible refine CallW.can (can_of_W known mix Try.func75 (by kernel_rfl) ok_route_prefixes_1 (Nat.le_of_ble_eq_true rfl) ?_) (fun _ _ h => h))
    | ((with_reducible refine Test.tmodEqT ?_ ?_ ?_); omega; focus first | omega | assumption)
    | ((with_reducible refine Test.tmodEqF ?_ ?_ ?_); omega; focus first | omega | assumption)
    | ((with_reducible refine Test.tmodNeT ?_ ?_ ?_); omega; focus first | omega | assumption)
    | ((with_reducible refine Test.tmodNeF ?_ ?_ ?_); omega; focus first | omega | assumption)
    | ((with_reducible refine Test.tmodEq ?_ (fun h => ?_) (fun h => ?_)); omega)
    | ((with_reducible refine Test.tmodNe ?_ (fun h => ?_) (fun h => ?_)); omega)
    | ((with_reducible refine Test.notT ?_ ?_); focus assumption)
    | ((with_reducible refine Test.notF ?_ ?_); focus assumption)
    | (with_reducible refine Test.notIe (fun h => ?_) (fun h => ?_))
    | (with_reducible refine Test.notD (fun h => ?_) (fun h => ?_))
    | ((with_reducible refine Test.empty (fun h => ?_) (fun h => ?_)))
    | (with_reducible refine Test.tt ?_)
    | (with_reducible refine Test.ff ?_)
    | ((with_reducible refine Test.dt ?_ ?_); omega)
    | ((with_reducible refine Test.df ?_ ?_); omega)
    | (with_reducible refine Test.d (fun h => ?_) (fun h => ?_))
    | ((with_reducible refine Test.ieT ?_ ?_); omega)
    | ((with_reducible refine Test.ieF ?_ ?_); omega)
    | ((with_reducible refine Test.neT ?_ ?_); omega)
    | ((with_reducible refine Test.neF ?_ ?_); omega)
    | (with_reducible refine Test.ie (fun h => ?_) (fun h => ?_))
    | (with_reducible refine Test.ne (fun h => ?_) (fun h => ?_))
    | ((with_reducible refine Test.b ?_ ?_); (focus first | assumption | (simp [negB]; done) | exact rfl))
    | ((with_reducible refine Test.nb ?_ ?_); (focus first | assumption | (simp [negB]; done) | exact rfl))
    | (with_reducible refine Test.notS (fun h => ?_) (fun h => ?_))
    | (with_reducible refine Test.mk (fun h => ?_) (fun h => ?_))
    | ((with_reducible refine Arith.tdiv ?_ ?_); omega)
    | (with_reducible refine Arith.bv8 ?_)
    | (with_reducible refine Arith.bv16 ?_)
    | (with_reducible refine Arith.bv32 ?_)
    | (with_reducible refine Arith.bv64 ?_)
    | ((with_reducible refine Arith.i64 ?_ ?_); omega)
    | ((with_reducible refine Arith.u64 ?_ ?_); omega)
    | ((with_reducible refine Arith.u32 ?_ ?_); omega)
    | ((with_reducible refine Arith.u16 ?_ ?_); omega)
    | ((with_reducible refine Arith.u8 ?_ ?_); omega)
    | ((with_reducible refine Arith.i32 ?_ ?_); omega)
    | (with_reducible refine Arith.mk ?_)
    | (with_reducible refine Ends.mk ?_))
  all_goals first | exact ⟨rfl, rfl⟩ | exact rfl
end G5
end Go.Proofs.Ytmdfkggflainbaa.VM
