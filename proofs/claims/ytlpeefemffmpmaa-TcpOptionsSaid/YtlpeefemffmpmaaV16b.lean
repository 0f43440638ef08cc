/- law 16 by the evaluator: what both read. -/
import Derived.Test.YtlpeefemffmpmaaV16a
import Derived.Test.YtlpeefemffmpmaaVBf
namespace Go.Proofs.Ytlpeefemffmpmaa.VM
namespace L16
open Go.RowKit
set_option linter.unusedVariables false
set_option linter.unusedSimpArgs false
set_option maxRecDepth 100000
def vf_tcp_read : VFn := ⟨(.seq (.reg [
    ⟨(some 2), .mv (.c (.p (.o (.int .u16 0)))), none, 0⟩,
    ⟨(some 3), .mv (.c (.p (.o (.int .i64 0)))), none, 0⟩,
    ⟨(some 4), .mv (.c (.p (.o (.int .i64 0)))), none, 0⟩] 0 none) (.scope 0 (.seq (.reg [
    ⟨(some 3), .mv (.c (.p (.o (.int .i64 (-1))))), none, 0⟩] 0 none) (.seq (.label 0) (.seq (.block 0 (.seq (.reg [
    ⟨(some 6), .mv (.t 0), none, 0⟩,
    ⟨(some 7), .bin .eql (.t 6) (.c (.p (.o (.str ⟨#[]⟩)))), none, 0⟩,
    ⟨(some 8), .mv (.t 7), none, 0⟩,
    ⟨(some 9), .mv (.t 0), (some (8, false)), 0⟩,
    ⟨(some 10), .ixs (.t 9) (.c (.p (.o (.int .i64 0)))), (some (8, false)), 0⟩,
    ⟨(some 11), .bin .eql (.t 10) (.c (.p (.o (.int .u8 0)))), (some (8, false)), 0⟩,
    ⟨(some 12), .pick (.t 8) (.c (.p (.o (.bool true)))) (.t 11), none, 0⟩,
    ⟨(some 5), .mv (.t 12), none, 0⟩] 0 none) (.cond (.t 5) (.seq (.reg [
    ⟨(some 13), .mv (.t 2), none, 0⟩,
    ⟨(some 14), .mv (.t 3), none, 0⟩,
    ⟨(some 2), .mv (.t 13), none, 0⟩,
    ⟨(some 3), .mv (.t 14), none, 0⟩,
    ⟨(some 4), .mv (.c (.p (.o (.int .i64 0)))), none, 0⟩] 0 none) .ret) (.seq (.reg [
    ⟨(some 16), .mv (.t 0), none, 0⟩,
    ⟨(some 17), .ixs (.t 16) (.c (.p (.o (.int .i64 0)))), none, 0⟩,
    ⟨(some 18), .bin .eql (.t 17) (.c (.p (.o (.int .u8 1)))), none, 0⟩,
    ⟨(some 15), .mv (.t 18), none, 0⟩] 0 none) (.cond (.t 15) (.seq (.reg [
    ⟨(some 19), .mv (.t 0), none, 0⟩,
    ⟨(some 20), .sls (.t 19) (some (.c (.p (.o (.int .i64 1))))) none, none, 0⟩,
    ⟨(some 0), .mv (.t 20), none, 0⟩] 0 none) (.goto 0)) (.seq (.reg [
    ⟨(some 22), .mv (.t 0), none, 0⟩,
    ⟨(some 23), .len false (.t 22), none, 0⟩,
    ⟨(some 24), .bin .lss (.t 23) (.c (.p (.o (.int .i64 2)))), none, 0⟩,
    ⟨(some 25), .mv (.t 24), none, 0⟩,
    ⟨(some 26), .mv (.t 0), (some (25, false)), 0⟩,
    ⟨(some 27), .ixs (.t 26) (.c (.p (.o (.int .i64 1)))), (some (25, false)), 0⟩,
    ⟨(some 28), .bin .lss (.t 27) (.c (.p (.o (.int .u8 2)))), (some (25, false)), 0⟩,
    ⟨(some 29), .pick (.t 25) (.c (.p (.o (.bool true)))) (.t 28), none, 0⟩,
    ⟨(some 30), .mv (.t 29), none, 0⟩,
    ⟨(some 31), .mv (.t 0), (some (30, false)), 0⟩,
    ⟨(some 32), .ixs (.t 31) (.c (.p (.o (.int .i64 1)))), (some (30, false)), 0⟩,
    ⟨(some 33), .cvi .i64 (.t 32), (some (30, false)), 0⟩,
    ⟨(some 34), .mv (.t 0), (some (30, false)), 0⟩,
    ⟨(some 35), .len false (.t 34), (some (30, false)), 0⟩,
    ⟨(some 36), .bin .gtr (.t 33) (.t 35), (some (30, false)), 0⟩,
    ⟨(some 37), .pick (.t 30) (.c (.p (.o (.bool true)))) (.t 36), none, 0⟩,
    ⟨(some 21), .mv (.t 37), none, 0⟩] 0 none) (.cond (.t 21) (.seq (.reg [
    ⟨(some 2), .mv (.c (.p (.o (.int .u16 0)))), none, 0⟩,
    ⟨(some 3), .mv (.c (.p (.o (.int .i64 (-1))))), none, 0⟩,
    ⟨(some 4), .mv (.c (.p (.o (.int .i64 102)))), none, 0⟩] 0 none) .ret) (.seq (.reg [
    ⟨(some 39), .mv (.t 0), none, 0⟩,
    ⟨(some 40), .ixs (.t 39) (.c (.p (.o (.int .i64 0)))), none, 0⟩,
    ⟨(some 41), .bin .eql (.t 40) (.c (.p (.o (.int .u8 2)))), none, 0⟩,
    ⟨(some 42), .mv (.t 41), none, 0⟩,
    ⟨(some 43), .mv (.t 0), (some (42, true)), 0⟩,
    ⟨(some 44), .ixs (.t 43) (.c (.p (.o (.int .i64 1)))), (some (42, true)), 0⟩,
    ⟨(some 45), .bin .eql (.t 44) (.c (.p (.o (.int .u8 4)))), (some (42, true)), 0⟩,
    ⟨(some 46), .pick (.t 42) (.t 45) (.c (.p (.o (.bool false)))), none, 0⟩,
    ⟨(some 38), .mv (.t 46), none, 0⟩] 0 none) (.cond (.t 38) (.reg [
    ⟨(some 48), .mv (.t 0), none, 0⟩,
    ⟨(some 49), .call 50 [(.t 48), (.c (.p (.o (.int .i64 2))))] 0, none, 0⟩,
    ⟨(some 47), .mv (.t 49), none, 0⟩,
    ⟨(some 50), .ext 0 (.t 47), none, 0⟩,
    ⟨(some 51), .ext 1 (.t 47), none, 0⟩,
    ⟨(some 2), .mv (.t 50), none, 0⟩] 0 none) (.seq (.reg [
    ⟨(some 53), .mv (.t 0), none, 0⟩,
    ⟨(some 54), .ixs (.t 53) (.c (.p (.o (.int .i64 0)))), none, 0⟩,
    ⟨(some 55), .bin .eql (.t 54) (.c (.p (.o (.int .u8 3)))), none, 0⟩,
    ⟨(some 56), .mv (.t 55), none, 0⟩,
    ⟨(some 57), .mv (.t 0), (some (56, true)), 0⟩,
    ⟨(some 58), .ixs (.t 57) (.c (.p (.o (.int .i64 1)))), (some (56, true)), 0⟩,
    ⟨(some 59), .bin .eql (.t 58) (.c (.p (.o (.int .u8 3)))), (some (56, true)), 0⟩,
    ⟨(some 60), .pick (.t 56) (.t 59) (.c (.p (.o (.bool false)))), none, 0⟩,
    ⟨(some 52), .mv (.t 60), none, 0⟩] 0 none) (.cond (.t 52) (.reg [
    ⟨(some 61), .mv (.t 0), none, 0⟩,
    ⟨(some 62), .ixs (.t 61) (.c (.p (.o (.int .i64 2)))), none, 0⟩,
    ⟨(some 63), .cvi .i64 (.t 62), none, 0⟩,
    ⟨(some 64), .mnx false (.t 63) (.c (.p (.o (.int .i64 14)))), none, 0⟩,
    ⟨(some 3), .mv (.t 64), none, 0⟩] 0 none) .skip))))))))))) (.seq (.reg [
    ⟨(some 65), .mv (.t 0), none, 0⟩,
    ⟨(some 66), .mv (.t 0), none, 0⟩,
    ⟨(some 67), .ixs (.t 66) (.c (.p (.o (.int .i64 1)))), none, 0⟩,
    ⟨(some 68), .sls (.t 65) (some (.t 67)) none, none, 0⟩,
    ⟨(some 0), .mv (.t 68), none, 0⟩] 0 none) (.goto 0))))) (.seq .skip (.seq (.block 0 (.seq (.reg [
    ⟨(some 6), .mv (.t 0), none, 0⟩,
    ⟨(some 7), .bin .eql (.t 6) (.c (.p (.o (.str ⟨#[]⟩)))), none, 0⟩,
    ⟨(some 8), .mv (.t 7), none, 0⟩,
    ⟨(some 9), .mv (.t 0), (some (8, false)), 0⟩,
    ⟨(some 10), .ixs (.t 9) (.c (.p (.o (.int .i64 0)))), (some (8, false)), 0⟩,
    ⟨(some 11), .bin .eql (.t 10) (.c (.p (.o (.int .u8 0)))), (some (8, false)), 0⟩,
    ⟨(some 12), .pick (.t 8) (.c (.p (.o (.bool true)))) (.t 11), none, 0⟩,
    ⟨(some 5), .mv (.t 12), none, 0⟩] 0 none) (.cond (.t 5) (.seq (.reg [
    ⟨(some 13), .mv (.t 2), none, 0⟩,
    ⟨(some 14), .mv (.t 3), none, 0⟩,
    ⟨(some 2), .mv (.t 13), none, 0⟩,
    ⟨(some 3), .mv (.t 14), none, 0⟩,
    ⟨(some 4), .mv (.c (.p (.o (.int .i64 0)))), none, 0⟩] 0 none) .ret) (.seq (.reg [
    ⟨(some 16), .mv (.t 0), none, 0⟩,
    ⟨(some 17), .ixs (.t 16) (.c (.p (.o (.int .i64 0)))), none, 0⟩,
    ⟨(some 18), .bin .eql (.t 17) (.c (.p (.o (.int .u8 1)))), none, 0⟩,
    ⟨(some 15), .mv (.t 18), none, 0⟩] 0 none) (.cond (.t 15) (.seq (.reg [
    ⟨(some 19), .mv (.t 0), none, 0⟩,
    ⟨(some 20), .sls (.t 19) (some (.c (.p (.o (.int .i64 1))))) none, none, 0⟩,
    ⟨(some 0), .mv (.t 20), none, 0⟩] 0 none) (.goto 0)) (.seq (.reg [
    ⟨(some 22), .mv (.t 0), none, 0⟩,
    ⟨(some 23), .len false (.t 22), none, 0⟩,
    ⟨(some 24), .bin .lss (.t 23) (.c (.p (.o (.int .i64 2)))), none, 0⟩,
    ⟨(some 25), .mv (.t 24), none, 0⟩,
    ⟨(some 26), .mv (.t 0), (some (25, false)), 0⟩,
    ⟨(some 27), .ixs (.t 26) (.c (.p (.o (.int .i64 1)))), (some (25, false)), 0⟩,
    ⟨(some 28), .bin .lss (.t 27) (.c (.p (.o (.int .u8 2)))), (some (25, false)), 0⟩,
    ⟨(some 29), .pick (.t 25) (.c (.p (.o (.bool true)))) (.t 28), none, 0⟩,
    ⟨(some 30), .mv (.t 29), none, 0⟩,
    ⟨(some 31), .mv (.t 0), (some (30, false)), 0⟩,
    ⟨(some 32), .ixs (.t 31) (.c (.p (.o (.int .i64 1)))), (some (30, false)), 0⟩,
    ⟨(some 33), .cvi .i64 (.t 32), (some (30, false)), 0⟩,
    ⟨(some 34), .mv (.t 0), (some (30, false)), 0⟩,
    ⟨(some 35), .len false (.t 34), (some (30, false)), 0⟩,
    ⟨(some 36), .bin .gtr (.t 33) (.t 35), (some (30, false)), 0⟩,
    ⟨(some 37), .pick (.t 30) (.c (.p (.o (.bool true)))) (.t 36), none, 0⟩,
    ⟨(some 21), .mv (.t 37), none, 0⟩] 0 none) (.cond (.t 21) (.seq (.reg [
    ⟨(some 2), .mv (.c (.p (.o (.int .u16 0)))), none, 0⟩,
    ⟨(some 3), .mv (.c (.p (.o (.int .i64 (-1))))), none, 0⟩,
    ⟨(some 4), .mv (.c (.p (.o (.int .i64 102)))), none, 0⟩] 0 none) .ret) (.seq (.reg [
    ⟨(some 39), .mv (.t 0), none, 0⟩,
    ⟨(some 40), .ixs (.t 39) (.c (.p (.o (.int .i64 0)))), none, 0⟩,
    ⟨(some 41), .bin .eql (.t 40) (.c (.p (.o (.int .u8 2)))), none, 0⟩,
    ⟨(some 42), .mv (.t 41), none, 0⟩,
    ⟨(some 43), .mv (.t 0), (some (42, true)), 0⟩,
    ⟨(some 44), .ixs (.t 43) (.c (.p (.o (.int .i64 1)))), (some (42, true)), 0⟩,
    ⟨(some 45), .bin .eql (.t 44) (.c (.p (.o (.int .u8 4)))), (some (42, true)), 0⟩,
    ⟨(some 46), .pick (.t 42) (.t 45) (.c (.p (.o (.bool false)))), none, 0⟩,
    ⟨(some 38), .mv (.t 46), none, 0⟩] 0 none) (.cond (.t 38) (.reg [
    ⟨(some 48), .mv (.t 0), none, 0⟩,
    ⟨(some 49), .call 50 [(.t 48), (.c (.p (.o (.int .i64 2))))] 0, none, 0⟩,
    ⟨(some 47), .mv (.t 49), none, 0⟩,
    ⟨(some 50), .ext 0 (.t 47), none, 0⟩,
    ⟨(some 51), .ext 1 (.t 47), none, 0⟩,
    ⟨(some 2), .mv (.t 50), none, 0⟩] 0 none) (.seq (.reg [
    ⟨(some 53), .mv (.t 0), none, 0⟩,
    ⟨(some 54), .ixs (.t 53) (.c (.p (.o (.int .i64 0)))), none, 0⟩,
    ⟨(some 55), .bin .eql (.t 54) (.c (.p (.o (.int .u8 3)))), none, 0⟩,
    ⟨(some 56), .mv (.t 55), none, 0⟩,
    ⟨(some 57), .mv (.t 0), (some (56, true)), 0⟩,
    ⟨(some 58), .ixs (.t 57) (.c (.p (.o (.int .i64 1)))), (some (56, true)), 0⟩,
    ⟨(some 59), .bin .eql (.t 58) (.c (.p (.o (.int .u8 3)))), (some (56, true)), 0⟩,
    ⟨(some 60), .pick (.t 56) (.t 59) (.c (.p (.o (.bool false)))), none, 0⟩,
    ⟨(some 52), .mv (.t 60), none, 0⟩] 0 none) (.cond (.t 52) (.reg [
    ⟨(some 61), .mv (.t 0), none, 0⟩,
    ⟨(some 62), .ixs (.t 61) (.c (.p (.o (.int .i64 2)))), none, 0⟩,
    ⟨(some 63), .cvi .i64 (.t 62), none, 0⟩,
    ⟨(some 64), .mnx false (.t 63) (.c (.p (.o (.int .i64 14)))), none, 0⟩,
    ⟨(some 3), .mv (.t 64), none, 0⟩] 0 none) .skip))))))))))) (.seq (.reg [
    ⟨(some 65), .mv (.t 0), none, 0⟩,
    ⟨(some 66), .mv (.t 0), none, 0⟩,
    ⟨(some 67), .ixs (.t 66) (.c (.p (.o (.int .i64 1)))), none, 0⟩,
    ⟨(some 68), .sls (.t 65) (some (.t 67)) none, none, 0⟩,
    ⟨(some 0), .mv (.t 68), none, 0⟩] 0 none) (.goto 0)))))),
  [.tmp 2, .tmp 3, .tmp 4], 69, [0, 2, 3, 4]⟩
theorem ok_tcp_read : cFn Try.prog eqsT newsT vf_tcp_read.keep Try.f59 = some vf_tcp_read := by kernel_rfl
def vf_ref16_read : VFn := ⟨(.seq (.reg [
    ⟨(some 2), .mv (.c (.p (.o (.int .u16 0)))), none, 0⟩,
    ⟨(some 3), .mv (.c (.p (.o (.int .i64 0)))), none, 0⟩,
    ⟨(some 4), .mv (.c (.p (.o (.int .i64 0)))), none, 0⟩] 0 none) (.seq (.reg [
    ⟨(some 5), .mv (.c (.p (.o (.int .u16 0)))), none, 0⟩] 0 none) (.seq (.reg [
    ⟨(some 6), .mv (.c (.p (.o (.int .i64 (-1))))), none, 0⟩] 0 none) (.seq (.seq (.reg [
    ⟨(some 7), .mv (.c (.p (.o (.int .i64 0)))), none, 0⟩] 0 none) (.block 0 (.loop (.seq (.seq (.reg [
    ⟨(some 9), .mv (.t 7), none, 0⟩,
    ⟨(some 10), .mv (.t 0), none, 0⟩,
    ⟨(some 11), .len false (.t 10), none, 0⟩,
    ⟨(some 12), .bin .lss (.t 9) (.t 11), none, 0⟩,
    ⟨(some 13), .mv (.t 12), none, 0⟩,
    ⟨(some 14), .mv (.t 0), (some (13, true)), 0⟩,
    ⟨(some 15), .mv (.t 7), (some (13, true)), 0⟩,
    ⟨(some 16), .ixs (.t 14) (.t 15), (some (13, true)), 0⟩,
    ⟨(some 17), .bin .neq (.t 16) (.c (.p (.o (.int .u8 0)))), (some (13, true)), 0⟩,
    ⟨(some 18), .pick (.t 13) (.t 17) (.c (.p (.o (.bool false)))), none, 0⟩] 0 none) (.cond (.t 18) .skip (.exit 0))) (.block 1 (.seq (.seq (.reg [
    ⟨(some 19), .mv (.t 0), none, 0⟩,
    ⟨(some 20), .mv (.t 7), none, 0⟩,
    ⟨(some 21), .ixs (.t 19) (.t 20), none, 0⟩,
    ⟨(some 22), .bin .eql (.t 21) (.c (.p (.o (.int .u8 1)))), none, 0⟩] 0 none) (.cond (.t 22) (.seq (.reg [
    ⟨(some 23), .mv (.t 7), none, 0⟩,
    ⟨(some 24), .bin .add (.t 23) (.c (.p (.o (.int .i64 1)))), none, 0⟩,
    ⟨(some 7), .mv (.t 24), none, 0⟩] 0 none) (.exit 1)) .skip)) (.seq (.seq (.reg [
    ⟨(some 25), .mv (.t 7), none, 0⟩,
    ⟨(some 26), .bin .add (.t 25) (.c (.p (.o (.int .i64 1)))), none, 0⟩,
    ⟨(some 27), .mv (.t 0), none, 0⟩,
    ⟨(some 28), .len false (.t 27), none, 0⟩,
    ⟨(some 29), .bin .geq (.t 26) (.t 28), none, 0⟩,
    ⟨(some 30), .mv (.t 29), none, 0⟩,
    ⟨(some 31), .mv (.t 0), (some (30, false)), 0⟩,
    ⟨(some 32), .mv (.t 7), (some (30, false)), 0⟩,
    ⟨(some 33), .bin .add (.t 32) (.c (.p (.o (.int .i64 1)))), (some (30, false)), 0⟩,
    ⟨(some 34), .ixs (.t 31) (.t 33), (some (30, false)), 0⟩,
    ⟨(some 35), .bin .lss (.t 34) (.c (.p (.o (.int .u8 2)))), (some (30, false)), 0⟩,
    ⟨(some 36), .pick (.t 30) (.c (.p (.o (.bool true)))) (.t 35), none, 0⟩,
    ⟨(some 37), .mv (.t 36), none, 0⟩,
    ⟨(some 38), .mv (.t 7), (some (37, false)), 0⟩,
    ⟨(some 39), .mv (.t 0), (some (37, false)), 0⟩,
    ⟨(some 40), .mv (.t 7), (some (37, false)), 0⟩,
    ⟨(some 41), .bin .add (.t 40) (.c (.p (.o (.int .i64 1)))), (some (37, false)), 0⟩,
    ⟨(some 42), .ixs (.t 39) (.t 41), (some (37, false)), 0⟩,
    ⟨(some 43), .cvi .i64 (.t 42), (some (37, false)), 0⟩,
    ⟨(some 44), .bin .add (.t 38) (.t 43), (some (37, false)), 0⟩,
    ⟨(some 45), .mv (.t 0), (some (37, false)), 0⟩,
    ⟨(some 46), .len false (.t 45), (some (37, false)), 0⟩,
    ⟨(some 47), .bin .gtr (.t 44) (.t 46), (some (37, false)), 0⟩,
    ⟨(some 48), .pick (.t 37) (.c (.p (.o (.bool true)))) (.t 47), none, 0⟩] 0 none) (.cond (.t 48) (.seq (.reg [
    ⟨(some 2), .mv (.c (.p (.o (.int .u16 0)))), none, 0⟩,
    ⟨(some 3), .mv (.c (.p (.o (.int .i64 (-1))))), none, 0⟩,
    ⟨(some 4), .mv (.c (.p (.o (.int .i64 102)))), none, 0⟩] 0 none) .ret) .skip)) (.seq (.reg [
    ⟨(some 49), .mv (.t 0), none, 0⟩,
    ⟨(some 50), .mv (.t 7), none, 0⟩,
    ⟨(some 51), .bin .add (.t 50) (.c (.p (.o (.int .i64 1)))), none, 0⟩,
    ⟨(some 52), .ixs (.t 49) (.t 51), none, 0⟩,
    ⟨(some 53), .cvi .i64 (.t 52), none, 0⟩,
    ⟨(some 8), .mv (.t 53), none, 0⟩] 0 none) (.seq (.seq (.reg [
    ⟨(some 54), .mv (.t 0), none, 0⟩,
    ⟨(some 55), .mv (.t 7), none, 0⟩,
    ⟨(some 56), .ixs (.t 54) (.t 55), none, 0⟩,
    ⟨(some 57), .bin .eql (.t 56) (.c (.p (.o (.int .u8 2)))), none, 0⟩,
    ⟨(some 58), .mv (.t 57), none, 0⟩,
    ⟨(some 59), .mv (.t 8), (some (58, true)), 0⟩,
    ⟨(some 60), .bin .eql (.t 59) (.c (.p (.o (.int .i64 4)))), (some (58, true)), 0⟩,
    ⟨(some 61), .pick (.t 58) (.t 60) (.c (.p (.o (.bool false)))), none, 0⟩] 0 none) (.cond (.t 61) (.reg [
    ⟨(some 62), .mv (.t 0), none, 0⟩,
    ⟨(some 63), .mv (.t 7), none, 0⟩,
    ⟨(some 64), .bin .add (.t 63) (.c (.p (.o (.int .i64 2)))), none, 0⟩,
    ⟨(some 65), .call 63 [(.t 62), (.t 64), (.c (.p (.o (.int .i64 2))))] 0, none, 0⟩,
    ⟨(some 66), .cvi .u16 (.t 65), none, 0⟩,
    ⟨(some 5), .mv (.t 66), none, 0⟩] 0 none) .skip)) (.seq (.seq (.reg [
    ⟨(some 67), .mv (.t 0), none, 0⟩,
    ⟨(some 68), .mv (.t 7), none, 0⟩,
    ⟨(some 69), .ixs (.t 67) (.t 68), none, 0⟩,
    ⟨(some 70), .bin .eql (.t 69) (.c (.p (.o (.int .u8 3)))), none, 0⟩,
    ⟨(some 71), .mv (.t 70), none, 0⟩,
    ⟨(some 72), .mv (.t 8), (some (71, true)), 0⟩,
    ⟨(some 73), .bin .eql (.t 72) (.c (.p (.o (.int .i64 3)))), (some (71, true)), 0⟩,
    ⟨(some 74), .pick (.t 71) (.t 73) (.c (.p (.o (.bool false)))), none, 0⟩] 0 none) (.cond (.t 74) (.reg [
    ⟨(some 75), .mv (.t 0), none, 0⟩,
    ⟨(some 76), .mv (.t 7), none, 0⟩,
    ⟨(some 77), .bin .add (.t 76) (.c (.p (.o (.int .i64 2)))), none, 0⟩,
    ⟨(some 78), .ixs (.t 75) (.t 77), none, 0⟩,
    ⟨(some 79), .cvi .i64 (.t 78), none, 0⟩,
    ⟨(some 80), .mnx false (.t 79) (.c (.p (.o (.int .i64 14)))), none, 0⟩,
    ⟨(some 6), .mv (.t 80), none, 0⟩] 0 none) .skip)) (.reg [
    ⟨(some 81), .mv (.t 7), none, 0⟩,
    ⟨(some 82), .mv (.t 8), none, 0⟩,
    ⟨(some 83), .bin .add (.t 81) (.t 82), none, 0⟩,
    ⟨(some 7), .mv (.t 83), none, 0⟩] 0 none))))))))))) (.seq (.reg [
    ⟨(some 84), .mv (.t 5), none, 0⟩,
    ⟨(some 85), .mv (.t 6), none, 0⟩,
    ⟨(some 2), .mv (.t 84), none, 0⟩,
    ⟨(some 3), .mv (.t 85), none, 0⟩,
    ⟨(some 4), .mv (.c (.p (.o (.int .i64 0)))), none, 0⟩] 0 none) .ret))))),
  [.tmp 2, .tmp 3, .tmp 4], 86, [0, 2, 3, 4, 5, 6, 7, 8]⟩
theorem ok_ref16_read : cFn Try.prog eqsT newsT vf_ref16_read.keep Try.f62 = some vf_ref16_read := by kernel_rfl
def vf_tcp_Decode : VFn := ⟨(.seq (.reg [
    ⟨(some 6), .new [.int .u32 0, .int .u16 0, .int .u32 0, .int .u16 0, .int .u32 0, .int .u32 0, .int .u8 0, .int .u16 0, .int .u16 0, .int .u16 0, .int .i64 0, .str ⟨#[]⟩], none, 0⟩,
    ⟨(some 7), .mv (.c (.p (.o (.int .i64 0)))), none, 1⟩] 1 none) (.seq (.seq (.reg [
    ⟨(some 11), .mv (.t 2), none, 0⟩,
    ⟨(some 12), .len false (.t 11), none, 0⟩,
    ⟨(some 13), .bin .lss (.t 12) (.c (.p (.o (.int .i64 20)))), none, 0⟩] 0 none) (.cond (.t 13) (.seq (.reg [
    ⟨(some 14), .ld (some 12) (.t 6), none, 0⟩,
    ⟨none, .st 12 (.t 6) (.t 14), none, 0⟩,
    ⟨(some 7), .mv (.c (.p (.o (.int .i64 10)))), none, 0⟩] 0 none) .ret) .skip)) (.seq (.reg [
    ⟨(some 15), .mv (.t 2), none, 0⟩,
    ⟨(some 16), .ixs (.t 15) (.c (.p (.o (.int .i64 12)))), none, 0⟩,
    ⟨(some 17), .bin .shr (.t 16) (.c (.p (.o (.int .u64 4)))), none, 0⟩,
    ⟨(some 18), .cvi .i64 (.t 17), none, 0⟩,
    ⟨(some 19), .bin .mul (.c (.p (.o (.int .i64 4)))) (.t 18), none, 0⟩,
    ⟨(some 8), .mv (.t 19), none, 0⟩] 0 none) (.seq (.block 0 (.seq (.reg [
    ⟨(some 21), .mv (.t 8), none, 0⟩,
    ⟨(some 22), .bin .lss (.t 21) (.c (.p (.o (.int .i64 20)))), none, 0⟩,
    ⟨(some 20), .mv (.t 22), none, 0⟩] 0 none) (.cond (.t 20) (.seq (.reg [
    ⟨(some 23), .ld (some 12) (.t 6), none, 0⟩,
    ⟨none, .st 12 (.t 6) (.t 23), none, 0⟩,
    ⟨(some 7), .mv (.c (.p (.o (.int .i64 8)))), none, 0⟩] 0 none) .ret) (.seq (.reg [
    ⟨(some 25), .mv (.t 2), none, 0⟩,
    ⟨(some 26), .len false (.t 25), none, 0⟩,
    ⟨(some 27), .mv (.t 8), none, 0⟩,
    ⟨(some 28), .bin .lss (.t 26) (.t 27), none, 0⟩,
    ⟨(some 24), .mv (.t 28), none, 0⟩] 0 none) (.cond (.t 24) (.seq (.reg [
    ⟨(some 29), .ld (some 12) (.t 6), none, 0⟩,
    ⟨none, .st 12 (.t 6) (.t 29), none, 0⟩,
    ⟨(some 7), .mv (.c (.p (.o (.int .i64 10)))), none, 0⟩] 0 none) .ret) (.seq (.reg [
    ⟨(some 31), .mv (.t 0), none, 0⟩,
    ⟨(some 32), .mv (.t 1), none, 0⟩,
    ⟨(some 33), .mv (.t 2), none, 0⟩,
    ⟨(some 34), .len false (.t 33), none, 0⟩,
    ⟨(some 35), .call 25 [(.t 31), (.t 32), (.c (.p (.o (.int .u8 6)))), (.t 34)] 0, none, 0⟩,
    ⟨(some 36), .mv (.t 2), none, 0⟩,
    ⟨(some 37), .bsl 2 [.str ⟨#[]⟩, .str ⟨#[]⟩] [(0, 1, (.t 35)), (1, 1, (.t 36))], none, 0⟩,
    ⟨(some 38), .call 21 [(.t 37)] 0, none, 1⟩,
    ⟨(some 39), .un .not (.t 38), none, 1⟩,
    ⟨(some 30), .mv (.t 39), none, 1⟩] 1 none) (.cond (.t 30) (.seq (.reg [
    ⟨(some 40), .ld (some 12) (.t 6), none, 0⟩,
    ⟨none, .st 12 (.t 6) (.t 40), none, 0⟩,
    ⟨(some 7), .mv (.c (.p (.o (.int .i64 101)))), none, 0⟩] 0 none) .ret) .skip))))))) (.seq (.reg [
    ⟨(some 42), .mv (.t 2), none, 0⟩,
    ⟨(some 43), .mv (.t 8), none, 0⟩,
    ⟨(some 44), .sls (.t 42) (some (.c (.p (.o (.int .i64 20))))) (some (.t 43)), none, 0⟩,
    ⟨(some 45), .call 59 [(.t 44)] 0, none, 0⟩,
    ⟨(some 41), .mv (.t 45), none, 0⟩,
    ⟨(some 46), .ext 0 (.t 41), none, 0⟩,
    ⟨(some 47), .ext 1 (.t 41), none, 0⟩,
    ⟨(some 48), .ext 2 (.t 41), none, 0⟩,
    ⟨(some 9), .mv (.t 46), none, 0⟩,
    ⟨(some 10), .mv (.t 47), none, 0⟩,
    ⟨(some 7), .mv (.t 48), none, 0⟩] 0 none) (.seq (.seq (.reg [
    ⟨(some 49), .mv (.t 7), none, 0⟩,
    ⟨(some 50), .bin .neq (.t 49) (.c (.p (.o (.int .i64 0)))), none, 0⟩] 0 none) (.cond (.t 50) (.seq (.reg [
    ⟨(some 51), .ld (some 12) (.t 6), none, 0⟩,
    ⟨(some 52), .mv (.t 7), none, 0⟩,
    ⟨none, .st 12 (.t 6) (.t 51), none, 0⟩,
    ⟨(some 7), .mv (.t 52), none, 0⟩] 0 none) .ret) .skip)) (.seq (.reg [
    ⟨(some 53), .mv (.t 2), none, 0⟩,
    ⟨(some 54), .ixs (.t 53) (.c (.p (.o (.int .i64 13)))), none, 0⟩,
    ⟨(some 55), .bin .and (.t 54) (.c (.p (.o (.int .u8 63)))), none, 0⟩,
    ⟨(some 56), .mv (.t 2), none, 0⟩,
    ⟨(some 57), .mv (.t 8), none, 0⟩,
    ⟨(some 58), .sls (.t 56) (some (.t 57)) none, none, 0⟩,
    ⟨(some 59), .bld [.int .u32 0, .int .u16 0, .int .u32 0, .int .u16 0, .int .u32 0, .int .u32 0, .int .u8 0, .int .u16 0, .int .u16 0, .int .u16 0, .int .i64 0, .str ⟨#[]⟩] [(6, 1, (.t 55)), (10, 1, (.c (.p (.o (.int .i64 (-1)))))), (11, 1, (.t 58))], none, 0⟩,
    ⟨none, .st 12 (.t 6) (.t 59), none, 0⟩] 0 (some [(0, 3), (1, 3), (2, 3), (0, 4), (1, 4), (2, 4), (3, 4), (0, 5), (1, 5), (2, 5)])) (.seq (.reg [
    ⟨(some 60), .mv (.t 0), none, 0⟩,
    ⟨(some 61), .mv (.t 1), none, 0⟩,
    ⟨(some 62), .fad 0 (.t 6), none, 0⟩,
    ⟨(some 63), .fad 0 (.t 62), none, 0⟩,
    ⟨(some 64), .fad 0 (.t 63), none, 0⟩,
    ⟨none, .st 1 (.t 64) (.t 60), none, 0⟩,
    ⟨(some 65), .fad 0 (.t 6), none, 0⟩,
    ⟨(some 66), .fad 2 (.t 65), none, 0⟩,
    ⟨(some 67), .fad 0 (.t 66), none, 0⟩,
    ⟨none, .st 1 (.t 67) (.t 61), none, 0⟩] 0 none) (.seq (.reg [
    ⟨(some 69), .mv (.t 2), none, 0⟩,
    ⟨(some 70), .call 50 [(.t 69), (.c (.p (.o (.int .i64 0))))] 0, none, 0⟩,
    ⟨(some 68), .mv (.t 70), none, 0⟩,
    ⟨(some 71), .ext 0 (.t 68), none, 0⟩,
    ⟨(some 72), .ext 1 (.t 68), none, 0⟩,
    ⟨(some 73), .fad 0 (.t 6), none, 0⟩,
    ⟨(some 74), .fad 0 (.t 73), none, 0⟩,
    ⟨(some 75), .fad 1 (.t 74), none, 0⟩,
    ⟨none, .st 1 (.t 75) (.t 71), none, 0⟩] 0 none) (.seq (.reg [
    ⟨(some 77), .mv (.t 2), none, 0⟩,
    ⟨(some 78), .call 50 [(.t 77), (.c (.p (.o (.int .i64 2))))] 0, none, 0⟩,
    ⟨(some 76), .mv (.t 78), none, 0⟩,
    ⟨(some 79), .ext 0 (.t 76), none, 0⟩,
    ⟨(some 80), .ext 1 (.t 76), none, 0⟩,
    ⟨(some 81), .fad 0 (.t 6), none, 0⟩,
    ⟨(some 82), .fad 2 (.t 81), none, 0⟩,
    ⟨(some 83), .fad 1 (.t 82), none, 0⟩,
    ⟨none, .st 1 (.t 83) (.t 79), none, 0⟩] 0 none) (.seq (.reg [
    ⟨(some 85), .mv (.t 2), none, 0⟩,
    ⟨(some 86), .call 60 [(.t 85), (.c (.p (.o (.int .i64 4))))] 0, none, 0⟩,
    ⟨(some 84), .mv (.t 86), none, 0⟩,
    ⟨(some 87), .ext 0 (.t 84), none, 0⟩,
    ⟨(some 88), .ext 1 (.t 84), none, 0⟩,
    ⟨(some 89), .fad 4 (.t 6), none, 0⟩,
    ⟨none, .st 1 (.t 89) (.t 87), none, 0⟩] 0 none) (.seq (.reg [
    ⟨(some 91), .mv (.t 2), none, 0⟩,
    ⟨(some 92), .call 60 [(.t 91), (.c (.p (.o (.int .i64 8))))] 0, none, 0⟩,
    ⟨(some 90), .mv (.t 92), none, 0⟩,
    ⟨(some 93), .ext 0 (.t 90), none, 0⟩,
    ⟨(some 94), .ext 1 (.t 90), none, 0⟩,
    ⟨(some 95), .fad 5 (.t 6), none, 0⟩,
    ⟨none, .st 1 (.t 95) (.t 93), none, 0⟩] 0 none) (.seq (.reg [
    ⟨(some 97), .mv (.t 2), none, 0⟩,
    ⟨(some 98), .call 50 [(.t 97), (.c (.p (.o (.int .i64 14))))] 0, none, 0⟩,
    ⟨(some 96), .mv (.t 98), none, 0⟩,
    ⟨(some 99), .ext 0 (.t 96), none, 0⟩,
    ⟨(some 100), .ext 1 (.t 96), none, 0⟩,
    ⟨(some 101), .fad 7 (.t 6), none, 0⟩,
    ⟨none, .st 1 (.t 101) (.t 99), none, 0⟩] 0 none) (.seq (.reg [
    ⟨(some 103), .mv (.t 2), none, 0⟩,
    ⟨(some 104), .call 50 [(.t 103), (.c (.p (.o (.int .i64 18))))] 0, none, 0⟩,
    ⟨(some 102), .mv (.t 104), none, 0⟩,
    ⟨(some 105), .ext 0 (.t 102), none, 0⟩,
    ⟨(some 106), .ext 1 (.t 102), none, 0⟩,
    ⟨(some 107), .fad 8 (.t 6), none, 0⟩,
    ⟨none, .st 1 (.t 107) (.t 105), none, 0⟩] 0 none) (.seq (.seq (.reg [
    ⟨(some 108), .ld (some 12) (.t 6), none, 0⟩,
    ⟨(some 109), .call 61 [(.t 108)] 1, none, 0⟩,
    ⟨(some 110), .callv (.t 109) [(.c (.p (.o (.int .u8 2))))] 0, none, 1⟩] 1 none) (.cond (.t 110) (.reg [
    ⟨(some 111), .mv (.t 9), none, 0⟩,
    ⟨(some 112), .mv (.t 10), none, 0⟩,
    ⟨(some 113), .fad 9 (.t 6), none, 0⟩,
    ⟨none, .st 1 (.t 113) (.t 111), none, 0⟩,
    ⟨(some 114), .fad 10 (.t 6), none, 0⟩,
    ⟨none, .st 1 (.t 114) (.t 112), none, 0⟩] 0 none) .skip)) (.seq (.reg [
    ⟨(some 115), .ld (some 12) (.t 6), none, 0⟩,
    ⟨none, .st 12 (.t 6) (.t 115), none, 0⟩,
    ⟨(some 7), .mv (.c (.p (.o (.int .i64 0)))), none, 0⟩] 0 none) .ret)))))))))))))))),
  [.cell 6 (some 12), .tmp 7], 116, [0, 1, 2, 6, 7, 8, 9, 10]⟩
theorem ok_tcp_Decode : cFn Try.prog eqsT newsT vf_tcp_Decode.keep Try.f38 = some vf_tcp_Decode := by kernel_rfl
def vf_ref16_num : VFn := ⟨(.seq (.reg [
    ⟨(some 6), .mv (.c (.p (.o (.int .u64 0)))), none, 0⟩] 0 none) (.seq (.reg [
    ⟨(some 10), .mv (.t 0), none, 0⟩,
    ⟨(some 11), .mv (.t 1), none, 0⟩,
    ⟨(some 12), .mv (.t 2), none, 0⟩,
    ⟨(some 13), .call 56 [(.t 10), (.t 11), (.t 12)] 0, none, 0⟩,
    ⟨(some 9), .mv (.t 13), none, 0⟩,
    ⟨(some 14), .ext 0 (.t 9), none, 0⟩,
    ⟨(some 15), .ext 1 (.t 9), none, 0⟩,
    ⟨(some 7), .mv (.t 14), none, 0⟩,
    ⟨(some 8), .mv (.t 15), none, 0⟩] 0 none) (.seq (.reg [
    ⟨(some 16), .mv (.t 7), none, 0⟩,
    ⟨(some 6), .mv (.t 16), none, 0⟩] 0 none) .ret))),
  [.tmp 6], 17, [0, 1, 2, 6, 7]⟩
theorem ok_ref16_num : cFn Try.prog eqsT newsT vf_ref16_num.keep Try.f63 = some vf_ref16_num := by kernel_rfl
def vf_ref01_Num : VFn := ⟨(.seq (.reg [
    ⟨(some 6), .mv (.c (.p (.o (.int .u64 0)))), none, 0⟩,
    ⟨(some 7), .mv (.c (.p (.o (.int .i64 0)))), none, 0⟩] 0 none) (.seq (.seq (.reg [
    ⟨(some 10), .mv (.t 1), none, 0⟩,
    ⟨(some 11), .bin .lss (.t 10) (.c (.p (.o (.int .i64 0)))), none, 0⟩,
    ⟨(some 12), .mv (.t 11), none, 0⟩,
    ⟨(some 13), .mv (.t 2), (some (12, false)), 0⟩,
    ⟨(some 14), .bin .lss (.t 13) (.c (.p (.o (.int .i64 0)))), (some (12, false)), 0⟩,
    ⟨(some 15), .pick (.t 12) (.c (.p (.o (.bool true)))) (.t 14), none, 0⟩] 0 none) (.cond (.t 15) (.seq (.reg [
    ⟨(some 6), .mv (.c (.p (.o (.int .u64 0)))), none, 0⟩,
    ⟨(some 7), .mv (.c (.p (.o (.int .i64 2)))), none, 0⟩] 0 none) .ret) .skip)) (.seq (.seq (.reg [
    ⟨(some 16), .mv (.t 1), none, 0⟩,
    ⟨(some 17), .mv (.t 0), none, 0⟩,
    ⟨(some 18), .len false (.t 17), none, 0⟩,
    ⟨(some 19), .bin .gtr (.t 16) (.t 18), none, 0⟩,
    ⟨(some 20), .mv (.t 19), none, 0⟩,
    ⟨(some 21), .mv (.t 0), (some (20, false)), 0⟩,
    ⟨(some 22), .len false (.t 21), (some (20, false)), 0⟩,
    ⟨(some 23), .mv (.t 1), (some (20, false)), 0⟩,
    ⟨(some 24), .bin .sub (.t 22) (.t 23), (some (20, false)), 0⟩,
    ⟨(some 25), .mv (.t 2), (some (20, false)), 0⟩,
    ⟨(some 26), .bin .lss (.t 24) (.t 25), (some (20, false)), 0⟩,
    ⟨(some 27), .pick (.t 20) (.c (.p (.o (.bool true)))) (.t 26), none, 0⟩] 0 none) (.cond (.t 27) (.seq (.reg [
    ⟨(some 6), .mv (.c (.p (.o (.int .u64 0)))), none, 0⟩,
    ⟨(some 7), .mv (.c (.p (.o (.int .i64 10)))), none, 0⟩] 0 none) .ret) .skip)) (.seq (.reg [
    ⟨(some 8), .mv (.c (.p (.o (.int .u64 0)))), none, 0⟩] 0 none) (.seq (.seq (.reg [
    ⟨(some 9), .mv (.c (.p (.o (.int .i64 0)))), none, 0⟩] 0 none) (.block 0 (.loop (.seq (.seq (.reg [
    ⟨(some 28), .mv (.t 9), none, 0⟩,
    ⟨(some 29), .mv (.t 2), none, 0⟩,
    ⟨(some 30), .bin .lss (.t 28) (.t 29), none, 0⟩] 0 none) (.cond (.t 30) .skip (.exit 0))) (.seq (.block 1 (.reg [
    ⟨(some 33), .mv (.t 8), none, 0⟩,
    ⟨(some 34), .bin .mul (.c (.p (.o (.int .u64 256)))) (.t 33), none, 0⟩,
    ⟨(some 35), .mv (.t 0), none, 0⟩,
    ⟨(some 36), .mv (.t 1), none, 0⟩,
    ⟨(some 37), .mv (.t 9), none, 0⟩,
    ⟨(some 38), .bin .add (.t 36) (.t 37), none, 0⟩,
    ⟨(some 39), .ixs (.t 35) (.t 38), none, 0⟩,
    ⟨(some 40), .cvi .u64 (.t 39), none, 0⟩,
    ⟨(some 41), .bin .add (.t 34) (.t 40), none, 0⟩,
    ⟨(some 8), .mv (.t 41), none, 0⟩] 0 none)) (.reg [
    ⟨(some 31), .mv (.t 9), none, 0⟩,
    ⟨(some 32), .bin .add (.t 31) (.c (.p (.o (.int .i64 1)))), none, 0⟩,
    ⟨(some 9), .mv (.t 32), none, 0⟩] 0 none)))))) (.seq (.reg [
    ⟨(some 42), .mv (.t 8), none, 0⟩,
    ⟨(some 6), .mv (.t 42), none, 0⟩,
    ⟨(some 7), .mv (.c (.p (.o (.int .i64 0)))), none, 0⟩] 0 none) .ret)))))),
  [.tmp 6, .tmp 7], 43, [0, 1, 2, 6, 7, 8, 9]⟩
theorem ok_ref01_Num : cFn Try.prog eqsT newsT vf_ref01_Num.keep Try.f56 = some vf_ref01_Num := by kernel_rfl
def vf_ref16_Decode : VFn := ⟨(.seq (.reg [
    ⟨(some 6), .new [.int .u32 0, .int .u16 0, .int .u32 0, .int .u16 0, .int .u32 0, .int .u32 0, .int .u8 0, .int .u16 0, .int .u16 0, .int .u16 0, .int .i64 0, .str ⟨#[]⟩], none, 0⟩,
    ⟨(some 7), .mv (.c (.p (.o (.int .i64 0)))), none, 1⟩] 1 none) (.seq (.reg [
    ⟨(some 14), .bld [.int .u32 0, .int .u16 0, .int .u32 0, .int .u16 0, .int .u32 0, .int .u32 0, .int .u8 0, .int .u16 0, .int .u16 0, .int .u16 0, .int .i64 0, .str ⟨#[]⟩] [], none, 0⟩,
    ⟨(some 8), .new [.int .u32 0, .int .u16 0, .int .u32 0, .int .u16 0, .int .u32 0, .int .u32 0, .int .u8 0, .int .u16 0, .int .u16 0, .int .u16 0, .int .i64 0, .str ⟨#[]⟩], none, 0⟩,
    ⟨none, .st 12 (.t 8) (.t 14), none, 1⟩] 1 none) (.seq (.seq (.reg [
    ⟨(some 15), .mv (.t 2), none, 0⟩,
    ⟨(some 16), .len false (.t 15), none, 0⟩,
    ⟨(some 17), .bin .lss (.t 16) (.c (.p (.o (.int .i64 20)))), none, 0⟩] 0 none) (.cond (.t 17) (.seq (.reg [
    ⟨(some 18), .ld (some 12) (.t 8), none, 0⟩,
    ⟨none, .st 12 (.t 6) (.t 18), none, 0⟩,
    ⟨(some 7), .mv (.c (.p (.o (.int .i64 10)))), none, 0⟩] 0 none) .ret) .skip)) (.seq (.reg [
    ⟨(some 19), .mv (.t 2), none, 0⟩,
    ⟨(some 20), .ixs (.t 19) (.c (.p (.o (.int .i64 12)))), none, 0⟩,
    ⟨(some 21), .bin .shr (.t 20) (.c (.p (.o (.int .u64 4)))), none, 0⟩,
    ⟨(some 22), .cvi .i64 (.t 21), none, 0⟩,
    ⟨(some 23), .bin .mul (.c (.p (.o (.int .i64 4)))) (.t 22), none, 0⟩,
    ⟨(some 9), .mv (.t 23), none, 0⟩] 0 none) (.seq (.seq (.reg [
    ⟨(some 24), .mv (.t 9), none, 0⟩,
    ⟨(some 25), .bin .lss (.t 24) (.c (.p (.o (.int .i64 20)))), none, 0⟩] 0 none) (.cond (.t 25) (.seq (.reg [
    ⟨(some 26), .ld (some 12) (.t 8), none, 0⟩,
    ⟨none, .st 12 (.t 6) (.t 26), none, 0⟩,
    ⟨(some 7), .mv (.c (.p (.o (.int .i64 8)))), none, 0⟩] 0 none) .ret) .skip)) (.seq (.seq (.reg [
    ⟨(some 27), .mv (.t 2), none, 0⟩,
    ⟨(some 28), .len false (.t 27), none, 0⟩,
    ⟨(some 29), .mv (.t 9), none, 0⟩,
    ⟨(some 30), .bin .lss (.t 28) (.t 29), none, 0⟩] 0 none) (.cond (.t 30) (.seq (.reg [
    ⟨(some 31), .ld (some 12) (.t 8), none, 0⟩,
    ⟨none, .st 12 (.t 6) (.t 31), none, 0⟩,
    ⟨(some 7), .mv (.c (.p (.o (.int .i64 10)))), none, 0⟩] 0 none) .ret) .skip)) (.seq (.seq (.reg [
    ⟨(some 32), .mv (.t 0), none, 0⟩,
    ⟨(some 33), .mv (.t 1), none, 0⟩,
    ⟨(some 34), .mv (.t 2), none, 0⟩,
    ⟨(some 35), .len false (.t 34), none, 0⟩,
    ⟨(some 36), .call 26 [(.t 32), (.t 33), (.c (.p (.o (.int .u8 6)))), (.t 35)] 0, none, 0⟩,
    ⟨(some 37), .mv (.t 2), none, 0⟩,
    ⟨(some 38), .bin .add (.t 36) (.t 37), none, 0⟩,
    ⟨(some 39), .call 22 [(.t 38)] 0, none, 0⟩,
    ⟨(some 40), .un .not (.t 39), none, 0⟩] 0 none) (.cond (.t 40) (.seq (.reg [
    ⟨(some 41), .ld (some 12) (.t 8), none, 0⟩,
    ⟨none, .st 12 (.t 6) (.t 41), none, 0⟩,
    ⟨(some 7), .mv (.c (.p (.o (.int .i64 101)))), none, 0⟩] 0 none) .ret) .skip)) (.seq (.reg [
    ⟨(some 43), .mv (.t 2), none, 0⟩,
    ⟨(some 44), .mv (.t 9), none, 0⟩,
    ⟨(some 45), .sls (.t 43) (some (.c (.p (.o (.int .i64 20))))) (some (.t 44)), none, 0⟩,
    ⟨(some 46), .call 62 [(.t 45)] 0, none, 0⟩,
    ⟨(some 42), .mv (.t 46), none, 0⟩,
    ⟨(some 47), .ext 0 (.t 42), none, 0⟩,
    ⟨(some 48), .ext 1 (.t 42), none, 0⟩,
    ⟨(some 49), .ext 2 (.t 42), none, 0⟩,
    ⟨(some 10), .mv (.t 47), none, 0⟩,
    ⟨(some 11), .mv (.t 48), none, 0⟩,
    ⟨(some 12), .mv (.t 49), none, 0⟩] 0 none) (.seq (.seq (.reg [
    ⟨(some 50), .mv (.t 12), none, 0⟩,
    ⟨(some 51), .bin .neq (.t 50) (.c (.p (.o (.int .i64 0)))), none, 0⟩] 0 none) (.cond (.t 51) (.seq (.reg [
    ⟨(some 52), .ld (some 12) (.t 8), none, 0⟩,
    ⟨(some 53), .mv (.t 12), none, 0⟩,
    ⟨none, .st 12 (.t 6) (.t 52), none, 0⟩,
    ⟨(some 7), .mv (.t 53), none, 0⟩] 0 none) .ret) .skip)) (.seq (.reg [
    ⟨(some 54), .mv (.t 0), none, 0⟩,
    ⟨(some 55), .mv (.t 2), none, 0⟩,
    ⟨(some 56), .call 63 [(.t 55), (.c (.p (.o (.int .i64 0)))), (.c (.p (.o (.int .i64 2))))] 0, none, 0⟩,
    ⟨(some 57), .cvi .u16 (.t 56), none, 0⟩,
    ⟨(some 58), .bld [.int .u32 0, .int .u16 0] [(0, 1, (.t 54)), (1, 1, (.t 57))], none, 0⟩,
    ⟨(some 59), .mv (.t 1), none, 0⟩,
    ⟨(some 60), .mv (.t 2), none, 0⟩,
    ⟨(some 61), .call 63 [(.t 60), (.c (.p (.o (.int .i64 2)))), (.c (.p (.o (.int .i64 2))))] 0, none, 0⟩,
    ⟨(some 62), .cvi .u16 (.t 61), none, 0⟩,
    ⟨(some 63), .bld [.int .u32 0, .int .u16 0] [(0, 1, (.t 59)), (1, 1, (.t 62))], none, 0⟩,
    ⟨(some 64), .bld [.int .u32 0, .int .u16 0, .int .u32 0, .int .u16 0] [(0, 2, (.t 58)), (2, 2, (.t 63))], none, 0⟩,
    ⟨(some 65), .mv (.t 2), none, 0⟩,
    ⟨(some 66), .call 63 [(.t 65), (.c (.p (.o (.int .i64 4)))), (.c (.p (.o (.int .i64 4))))] 0, none, 0⟩,
    ⟨(some 67), .cvi .u32 (.t 66), none, 0⟩,
    ⟨(some 68), .mv (.t 2), none, 0⟩,
    ⟨(some 69), .call 63 [(.t 68), (.c (.p (.o (.int .i64 8)))), (.c (.p (.o (.int .i64 4))))] 0, none, 0⟩,
    ⟨(some 70), .cvi .u32 (.t 69), none, 0⟩,
    ⟨(some 71), .mv (.t 2), none, 0⟩,
    ⟨(some 72), .ixs (.t 71) (.c (.p (.o (.int .i64 13)))), none, 0⟩,
    ⟨(some 73), .bin .and (.t 72) (.c (.p (.o (.int .u8 63)))), none, 0⟩,
    ⟨(some 74), .mv (.t 2), none, 0⟩,
    ⟨(some 75), .call 63 [(.t 74), (.c (.p (.o (.int .i64 14)))), (.c (.p (.o (.int .i64 2))))] 0, none, 0⟩,
    ⟨(some 76), .cvi .u16 (.t 75), none, 0⟩,
    ⟨(some 77), .mv (.t 2), none, 0⟩,
    ⟨(some 78), .call 63 [(.t 77), (.c (.p (.o (.int .i64 18)))), (.c (.p (.o (.int .i64 2))))] 0, none, 0⟩,
    ⟨(some 79), .cvi .u16 (.t 78), none, 0⟩,
    ⟨(some 80), .mv (.t 2), none, 0⟩,
    ⟨(some 81), .mv (.t 9), none, 0⟩,
    ⟨(some 82), .sls (.t 80) (some (.t 81)) none, none, 0⟩,
    ⟨(some 83), .bld [.int .u32 0, .int .u16 0, .int .u32 0, .int .u16 0, .int .u32 0, .int .u32 0, .int .u8 0, .int .u16 0, .int .u16 0, .int .u16 0, .int .i64 0, .str ⟨#[]⟩] [(0, 4, (.t 64)), (4, 1, (.t 67)), (5, 1, (.t 70)), (6, 1, (.t 73)), (7, 1, (.t 76)), (8, 1, (.t 79)), (10, 1, (.c (.p (.o (.int .i64 (-1)))))), (11, 1, (.t 82))], none, 0⟩,
    ⟨(some 13), .new [.int .u32 0, .int .u16 0, .int .u32 0, .int .u16 0, .int .u32 0, .int .u32 0, .int .u8 0, .int .u16 0, .int .u16 0, .int .u16 0, .int .i64 0, .str ⟨#[]⟩], none, 0⟩,
    ⟨none, .st 12 (.t 13) (.t 83), none, 1⟩] 1 (some [(0, 1), (0, 2), (0, 3), (0, 5), (1, 5), (2, 5), (3, 5), (4, 5), (0, 6), (1, 6), (2, 6), (3, 6), (4, 6), (5, 6), (0, 7), (3, 7), (4, 7), (5, 7), (0, 8), (3, 8), (4, 8), (5, 8), (0, 9), (3, 9), (4, 9), (0, 11), (1, 11), (2, 11), (3, 11), (4, 11), (5, 11), (6, 11), (7, 11), (8, 11), (9, 11), (10, 11), (0, 12), (3, 12), (4, 12), (5, 12), (8, 12), (9, 12), (10, 12), (0, 13), (3, 13), (4, 13), (5, 13), (8, 13), (9, 13), (10, 13), (0, 14), (1, 14), (2, 14), (3, 14), (4, 14), (5, 14), (6, 14), (7, 14), (8, 14), (9, 14), (10, 14), (11, 14), (12, 14), (13, 14), (0, 15), (3, 15), (4, 15), (5, 15), (8, 15), (9, 15), (10, 15), (13, 15), (0, 16), (3, 16), (4, 16), (5, 16), (8, 16), (9, 16), (10, 16), (13, 16), (0, 17), (1, 17), (2, 17), (3, 17), (4, 17), (5, 17), (6, 17), (7, 17), (8, 17), (9, 17), (10, 17), (11, 17), (12, 17), (13, 17), (14, 17), (15, 17), (16, 17), (0, 18), (1, 18), (2, 18), (3, 18), (4, 18), (5, 18), (6, 18), (7, 18), (8, 18), (9, 18), (10, 18), (11, 18), (12, 18), (13, 18), (14, 18), (15, 18), (16, 18), (0, 19), (1, 19), (2, 19), (3, 19), (4, 19), (5, 19), (6, 19), (7, 19), (8, 19), (9, 19), (10, 19), (11, 19), (12, 19), (13, 19), (14, 19), (15, 19), (16, 19), (0, 20), (1, 20), (2, 20), (3, 20), (4, 20), (5, 20), (6, 20), (7, 20), (8, 20), (9, 20), (10, 20), (11, 20), (12, 20), (13, 20), (14, 20), (15, 20), (16, 20), (17, 20), (18, 20), (19, 20), (0, 21), (3, 21), (4, 21), (5, 21), (8, 21), (9, 21), (10, 21), (13, 21), (16, 21), (17, 21), (18, 21), (19, 21), (0, 22), (3, 22), (4, 22), (5, 22), (8, 22), (9, 22), (10, 22), (13, 22), (16, 22), (17, 22), (18, 22), (19, 22), (0, 23), (1, 23), (2, 23), (3, 23), (4, 23), (5, 23), (6, 23), (7, 23), (8, 23), (9, 23), (10, 23), (11, 23), (12, 23), (13, 23), (14, 23), (15, 23), (16, 23), (17, 23), (18, 23), (19, 23), (20, 23), (21, 23), (22, 23), (0, 24), (3, 24), (4, 24), (5, 24), (8, 24), (9, 24), (10, 24), (13, 24), (16, 24), (17, 24), (18, 24), (19, 24), (22, 24), (0, 25), (3, 25), (4, 25), (5, 25), (8, 25), (9, 25), (10, 25), (13, 25), (16, 25), (17, 25), (18, 25), (19, 25), (22, 25), (0, 26), (1, 26), (2, 26), (3, 26), (4, 26), (5, 26), (6, 26), (7, 26), (8, 26), (9, 26), (10, 26), (11, 26), (12, 26), (13, 26), (14, 26), (15, 26), (16, 26), (17, 26), (18, 26), (19, 26), (20, 26), (21, 26), (22, 26), (23, 26), (24, 26), (25, 26), (0, 27), (1, 27), (2, 27), (3, 27), (4, 27), (5, 27), (6, 27), (7, 27), (8, 27), (9, 27), (10, 27), (11, 27), (12, 27), (13, 27), (14, 27), (15, 27), (16, 27), (17, 27), (18, 27), (19, 27), (20, 27), (21, 27), (22, 27), (23, 27), (24, 27), (25, 27), (26, 27), (0, 28), (1, 28), (2, 28), (3, 28), (4, 28), (5, 28), (6, 28), (7, 28), (8, 28), (9, 28), (10, 28), (11, 28), (12, 28), (13, 28), (14, 28), (15, 28), (16, 28), (17, 28), (18, 28), (19, 28), (20, 28), (21, 28), (22, 28), (23, 28), (24, 28), (25, 28), (0, 30), (1, 30), (2, 30), (3, 30), (4, 30), (5, 30), (6, 30), (7, 30), (8, 30), (9, 30), (10, 30), (11, 30), (12, 30), (13, 30), (14, 30), (15, 30), (16, 30), (17, 30), (18, 30), (19, 30), (20, 30), (21, 30), (22, 30), (23, 30), (24, 30), (25, 30), (26, 30), (27, 30), (28, 30), (29, 30)])) (.seq (.seq (.reg [
    ⟨(some 84), .ld (some 12) (.t 13), none, 0⟩,
    ⟨(some 85), .call 64 [(.t 84)] 0, none, 0⟩] 0 none) (.cond (.t 85) (.seq (.reg [
    ⟨(some 86), .mv (.t 10), none, 0⟩,
    ⟨(some 87), .fad 9 (.t 13), none, 0⟩,
    ⟨none, .st 1 (.t 87) (.t 86), none, 0⟩] 0 none) (.reg [
    ⟨(some 88), .mv (.t 11), none, 0⟩,
    ⟨(some 89), .fad 10 (.t 13), none, 0⟩,
    ⟨none, .st 1 (.t 89) (.t 88), none, 0⟩] 0 none)) .skip)) (.seq (.reg [
    ⟨(some 90), .ld (some 12) (.t 13), none, 0⟩,
    ⟨none, .st 12 (.t 6) (.t 90), none, 0⟩,
    ⟨(some 7), .mv (.c (.p (.o (.int .i64 0)))), none, 0⟩] 0 none) .ret)))))))))))),
  [.cell 6 (some 12), .tmp 7], 91, [0, 1, 2, 6, 7, 8, 9, 10, 11, 12, 13]⟩
theorem ok_ref16_Decode : cFn Try.prog eqsT newsT vf_ref16_Decode.keep Try.f39 = some vf_ref16_Decode := by kernel_rfl
def vr_tcp_read : VCode := (.seq .skip (.seq (.block 0 (.seq (.reg [
    ⟨(some 6), .mv (.t 0), none, 0⟩,
    ⟨(some 7), .bin .eql (.t 6) (.c (.p (.o (.str ⟨#[]⟩)))), none, 0⟩,
    ⟨(some 8), .mv (.t 7), none, 0⟩,
    ⟨(some 9), .mv (.t 0), (some (8, false)), 0⟩,
    ⟨(some 10), .ixs (.t 9) (.c (.p (.o (.int .i64 0)))), (some (8, false)), 0⟩,
    ⟨(some 11), .bin .eql (.t 10) (.c (.p (.o (.int .u8 0)))), (some (8, false)), 0⟩,
    ⟨(some 12), .pick (.t 8) (.c (.p (.o (.bool true)))) (.t 11), none, 0⟩,
    ⟨(some 5), .mv (.t 12), none, 0⟩] 0 none) (.cond (.t 5) (.seq (.reg [
    ⟨(some 13), .mv (.t 2), none, 0⟩,
    ⟨(some 14), .mv (.t 3), none, 0⟩,
    ⟨(some 2), .mv (.t 13), none, 0⟩,
    ⟨(some 3), .mv (.t 14), none, 0⟩,
    ⟨(some 4), .mv (.c (.p (.o (.int .i64 0)))), none, 0⟩] 0 none) .ret) (.seq (.reg [
    ⟨(some 16), .mv (.t 0), none, 0⟩,
    ⟨(some 17), .ixs (.t 16) (.c (.p (.o (.int .i64 0)))), none, 0⟩,
    ⟨(some 18), .bin .eql (.t 17) (.c (.p (.o (.int .u8 1)))), none, 0⟩,
    ⟨(some 15), .mv (.t 18), none, 0⟩] 0 none) (.cond (.t 15) (.seq (.reg [
    ⟨(some 19), .mv (.t 0), none, 0⟩,
    ⟨(some 20), .sls (.t 19) (some (.c (.p (.o (.int .i64 1))))) none, none, 0⟩,
    ⟨(some 0), .mv (.t 20), none, 0⟩] 0 none) (.goto 0)) (.seq (.reg [
    ⟨(some 22), .mv (.t 0), none, 0⟩,
    ⟨(some 23), .len false (.t 22), none, 0⟩,
    ⟨(some 24), .bin .lss (.t 23) (.c (.p (.o (.int .i64 2)))), none, 0⟩,
    ⟨(some 25), .mv (.t 24), none, 0⟩,
    ⟨(some 26), .mv (.t 0), (some (25, false)), 0⟩,
    ⟨(some 27), .ixs (.t 26) (.c (.p (.o (.int .i64 1)))), (some (25, false)), 0⟩,
    ⟨(some 28), .bin .lss (.t 27) (.c (.p (.o (.int .u8 2)))), (some (25, false)), 0⟩,
    ⟨(some 29), .pick (.t 25) (.c (.p (.o (.bool true)))) (.t 28), none, 0⟩,
    ⟨(some 30), .mv (.t 29), none, 0⟩,
    ⟨(some 31), .mv (.t 0), (some (30, false)), 0⟩,
    ⟨(some 32), .ixs (.t 31) (.c (.p (.o (.int .i64 1)))), (some (30, false)), 0⟩,
    ⟨(some 33), .cvi .i64 (.t 32), (some (30, false)), 0⟩,
    ⟨(some 34), .mv (.t 0), (some (30, false)), 0⟩,
    ⟨(some 35), .len false (.t 34), (some (30, false)), 0⟩,
    ⟨(some 36), .bin .gtr (.t 33) (.t 35), (some (30, false)), 0⟩,
    ⟨(some 37), .pick (.t 30) (.c (.p (.o (.bool true)))) (.t 36), none, 0⟩,
    ⟨(some 21), .mv (.t 37), none, 0⟩] 0 none) (.cond (.t 21) (.seq (.reg [
    ⟨(some 2), .mv (.c (.p (.o (.int .u16 0)))), none, 0⟩,
    ⟨(some 3), .mv (.c (.p (.o (.int .i64 (-1))))), none, 0⟩,
    ⟨(some 4), .mv (.c (.p (.o (.int .i64 102)))), none, 0⟩] 0 none) .ret) (.seq (.reg [
    ⟨(some 39), .mv (.t 0), none, 0⟩,
    ⟨(some 40), .ixs (.t 39) (.c (.p (.o (.int .i64 0)))), none, 0⟩,
    ⟨(some 41), .bin .eql (.t 40) (.c (.p (.o (.int .u8 2)))), none, 0⟩,
    ⟨(some 42), .mv (.t 41), none, 0⟩,
    ⟨(some 43), .mv (.t 0), (some (42, true)), 0⟩,
    ⟨(some 44), .ixs (.t 43) (.c (.p (.o (.int .i64 1)))), (some (42, true)), 0⟩,
    ⟨(some 45), .bin .eql (.t 44) (.c (.p (.o (.int .u8 4)))), (some (42, true)), 0⟩,
    ⟨(some 46), .pick (.t 42) (.t 45) (.c (.p (.o (.bool false)))), none, 0⟩,
    ⟨(some 38), .mv (.t 46), none, 0⟩] 0 none) (.cond (.t 38) (.reg [
    ⟨(some 48), .mv (.t 0), none, 0⟩,
    ⟨(some 49), .call 50 [(.t 48), (.c (.p (.o (.int .i64 2))))] 0, none, 0⟩,
    ⟨(some 47), .mv (.t 49), none, 0⟩,
    ⟨(some 50), .ext 0 (.t 47), none, 0⟩,
    ⟨(some 51), .ext 1 (.t 47), none, 0⟩,
    ⟨(some 2), .mv (.t 50), none, 0⟩] 0 none) (.seq (.reg [
    ⟨(some 53), .mv (.t 0), none, 0⟩,
    ⟨(some 54), .ixs (.t 53) (.c (.p (.o (.int .i64 0)))), none, 0⟩,
    ⟨(some 55), .bin .eql (.t 54) (.c (.p (.o (.int .u8 3)))), none, 0⟩,
    ⟨(some 56), .mv (.t 55), none, 0⟩,
    ⟨(some 57), .mv (.t 0), (some (56, true)), 0⟩,
    ⟨(some 58), .ixs (.t 57) (.c (.p (.o (.int .i64 1)))), (some (56, true)), 0⟩,
    ⟨(some 59), .bin .eql (.t 58) (.c (.p (.o (.int .u8 3)))), (some (56, true)), 0⟩,
    ⟨(some 60), .pick (.t 56) (.t 59) (.c (.p (.o (.bool false)))), none, 0⟩,
    ⟨(some 52), .mv (.t 60), none, 0⟩] 0 none) (.cond (.t 52) (.reg [
    ⟨(some 61), .mv (.t 0), none, 0⟩,
    ⟨(some 62), .ixs (.t 61) (.c (.p (.o (.int .i64 2)))), none, 0⟩,
    ⟨(some 63), .cvi .i64 (.t 62), none, 0⟩,
    ⟨(some 64), .mnx false (.t 63) (.c (.p (.o (.int .i64 14)))), none, 0⟩,
    ⟨(some 3), .mv (.t 64), none, 0⟩] 0 none) .skip))))))))))) (.seq (.reg [
    ⟨(some 65), .mv (.t 0), none, 0⟩,
    ⟨(some 66), .mv (.t 0), none, 0⟩,
    ⟨(some 67), .ixs (.t 66) (.c (.p (.o (.int .i64 1)))), none, 0⟩,
    ⟨(some 68), .sls (.t 65) (some (.t 67)) none, none, 0⟩,
    ⟨(some 0), .mv (.t 68), none, 0⟩] 0 none) (.goto 0))))
/-- What options say. -/
def optU : Nat → ByteArray → Int → Int → Int × Int × Int
  | 0, _, ms, sc => (ms, sc, 0)
  | f + 1, u, ms, sc =>
    if u.size = 0 then (ms, sc, 0) else if bAt u (Int.toNat 0) = 0 then (ms, sc, 0) else if bAt u (Int.toNat 0) = 1 then optU f (u.extract 1 u.size) ms sc
    else if u.size < 2 then (0, -1, 102) else if bAt u (Int.toNat 1) < 2 then (0, -1, 102) else if bAt u (Int.toNat 1) > u.size then (0, -1, 102)
    else if bAt u (Int.toNat 0) = 2 then (if bAt u (Int.toNat 1) = 4 then optU f (u.extract (bAt u (Int.toNat 1)).toNat u.size) (n2 u 2) sc else optU f (u.extract (bAt u (Int.toNat 1)).toNat u.size) ms sc)
    else if bAt u (Int.toNat 0) = 3 then (if bAt u (Int.toNat 1) = 3 then optU f (u.extract (bAt u (Int.toNat 1)).toNat u.size) ms (min (bAt u (Int.toNat 2)) 14) else optU f (u.extract (bAt u (Int.toNat 1)).toNat u.size) ms sc)
    else optU f (u.extract (bAt u (Int.toNat 1)).toNat u.size) ms sc
set_option maxHeartbeats 1000000 in
theorem tread_loop (Rm Rs Re : Int) : ∀ (f : Nat) (u : ByteArray) (ms sc : Int), optU f u ms sc = (Rm, Rs, Re) → u.size < f → u.size ≤ 40 →
    LoopW (fun X sl M => W ⟨Try.prog, 0, vf_tcp_read.keep⟩ vr_tcp_read (gotoW 0 (fun sl M => gcW ⟨Try.prog, 0, vf_tcp_read.keep⟩ sl M X) (retW vf_tcp_read 0 (fun v M => v = .t [.o (.int .u16 Rm), .o (.int .i64 Rs), .o (.int .i64 Re)] ∧ M = []))) sl M) [(0, .p (.o (.str u))), (2, .p (.o (.int .u16 ms))), (3, .p (.o (.int .i64 sc))), (4, .p (.o (.int .i64 0)))] [] := by
  intro f u ms sc h1 h2 h3
  refine LoopW.rule (fun f sl M => ∃ u ms sc, sl = [(0, .p (.o (.str u))), (2, .p (.o (.int .u16 ms))), (3, .p (.o (.int .i64 sc))), (4, .p (.o (.int .i64 0)))] ∧ M = [] ∧ optU f u ms sc = (Rm, Rs, Re) ∧ u.size < f ∧ u.size ≤ 40) ?_ f ⟨u, ms, sc, rfl, rfl, h1, h2, h3⟩
  clear h1 h2 h3 f u ms sc
  rintro f sl M ⟨u, ms, sc, rfl, rfl, h1, h2, h3⟩ X hX
  cases f with
  | zero => omega
  | succ f =>
    have hb0 := bAt_bd u (Int.toNat 0)
    have hb1 := bAt_bd u (Int.toNat 1)
    have hb2 := bAt_bd u (Int.toNat 2)
    unfold optU at h1
    repeat' ((conv => whnf); first
    | ((with_reducible refine Look.mk ?_); refine ⟨_, rfl, ?_⟩)
    | ((with_reducible refine LookN.zeros ?_))
    | ((with_reducible refine LookN.bytes ?_ ?_); (simp; done))
    | ((with_reducible refine BytesW.bytes ?_))
    | ((with_reducible refine Look.byte ?_ ?_); omega)
    | ((with_reducible refine Look.setb ?_ ?_ ?_); exact bv8_bd _; omega)
    | ((with_reducible refine LookN.setb ?_ ?_ ?_); exact bv8_bd _; omega)
    | ((with_reducible refine LookN.mk ?_); refine ⟨_, rfl, ?_⟩)
    | ((with_reducible refine Need.mk ?_ ?_); first | ((with_reducible refine needB ?_); kernel_rfl) | exact rfl | trivial | omega | exact Nat.le_of_ble_eq_true rfl | (exact ⟨rfl, by omega⟩) | (intro h; first | rfl | cases h) | (simp only [lenS_text, lenS_setN, lenS_zeros]; omega) | (simp only [ByteArray.size_append, size_lit, List.size_toArray, List.length_cons, List.length_nil, Sp.ofB_size, Sp.headB_size]; omega))
    | ((with_reducible refine BytesW.mk ?_); refine ⟨_, rfl, ?_⟩)
    | (with_reducible refine CallW.det (wordTwo _ _ (by unfold maxLen; omega) (by omega)) ?_)
    | (refine hX f (Nat.lt_succ_self f) _ _ ⟨_, _, _, rfl, rfl, (by (repeat (first | rw [if_pos (by omega)] at h1 | rw [if_neg (by omega)] at h1)); exact h1), (by rw [ByteArray.size_extract]; omega), (by rw [ByteArray.size_extract]; omega)⟩)
    | ((with_reducible refine Test.empty (fun h => ?_) (fun h => ?_)))
    | (with_reducible refine Test.tt ?_)
    | (with_reducible refine Test.ff ?_)
    | ((with_reducible refine Test.dt ?_ ?_); omega)
    | ((with_reducible refine Test.df ?_ ?_); omega)
    | (with_reducible refine Test.d (fun h => ?_) (fun h => ?_))
    | ((with_reducible refine Test.ieT ?_ ?_); omega)
    | ((with_reducible refine Test.ieF ?_ ?_); omega)
    | ((with_reducible refine Test.neT ?_ ?_); omega)
    | ((with_reducible refine Test.neF ?_ ?_); omega)
    | (with_reducible refine Test.ie (fun h => ?_) (fun h => ?_))
    | (with_reducible refine Test.ne (fun h => ?_) (fun h => ?_))
    | ((with_reducible refine Test.b ?_ ?_); (focus first | assumption | (simp [negB]; done) | exact rfl))
    | ((with_reducible refine Test.nb ?_ ?_); (focus first | assumption | (simp [negB]; done) | exact rfl))
    | (with_reducible refine Test.mk (fun h => ?_) (fun h => ?_))
    | (with_reducible refine Arith.bv8 ?_)
    | (with_reducible refine Arith.bv16 ?_)
    | (with_reducible refine Arith.bv32 ?_)
    | (with_reducible refine Arith.bv64 ?_)
    | ((with_reducible refine Arith.i64 ?_ ?_); omega)
    | ((with_reducible refine Arith.u64 ?_ ?_); omega)
    | ((with_reducible refine Arith.u32 ?_ ?_); omega)
    | ((with_reducible refine Arith.u16 ?_ ?_); omega)
    | ((with_reducible refine Arith.u8 ?_ ?_); omega)
    | ((with_reducible refine Arith.i32 ?_ ?_); omega)
    | ((with_reducible refine Arith.i64 ?_ ?_); simp (discharger := omega) only [Int.tdiv_eq_ediv_of_nonneg, shr_u8_4, shl_u8_4, shr_u16_4, shl_u16_4, shr_u16_8, shl_u16_8, shr_u32_4, shl_u32_4, shr_u32_8, shl_u32_8, shr_u32_16, shl_u32_16, shr_u32_24, shl_u32_24, shr_u64_4, shl_u64_4, shr_u64_8, shl_u64_8, shr_u64_16, shl_u64_16, shr_u64_24, shl_u64_24, shr_u64_40, shl_u64_40, shr_i64_4, shl_i64_4, shr_i64_8, shl_i64_8, shr_i64_16, shl_i64_16, shr_i64_24, shl_i64_24, shr_i64_40, shl_i64_40]; omega)
    | ((with_reducible refine Arith.u64 ?_ ?_); simp (discharger := omega) only [Int.tdiv_eq_ediv_of_nonneg, shr_u8_4, shl_u8_4, shr_u16_4, shl_u16_4, shr_u16_8, shl_u16_8, shr_u32_4, shl_u32_4, shr_u32_8, shl_u32_8, shr_u32_16, shl_u32_16, shr_u32_24, shl_u32_24, shr_u64_4, shl_u64_4, shr_u64_8, shl_u64_8, shr_u64_16, shl_u64_16, shr_u64_24, shl_u64_24, shr_u64_40, shl_u64_40, shr_i64_4, shl_i64_4, shr_i64_8, shl_i64_8, shr_i64_16, shl_i64_16, shr_i64_24, shl_i64_24, shr_i64_40, shl_i64_40]; omega)
    | ((with_reducible refine Arith.u32 ?_ ?_); simp (discharger := omega) only [Int.tdiv_eq_ediv_of_nonneg, shr_u8_4, shl_u8_4, shr_u16_4, shl_u16_4, shr_u16_8, shl_u16_8, shr_u32_4, shl_u32_4, shr_u32_8, shl_u32_8, shr_u32_16, shl_u32_16, shr_u32_24, shl_u32_24, shr_u64_4, shl_u64_4, shr_u64_8, shl_u64_8, shr_u64_16, shl_u64_16, shr_u64_24, shl_u64_24, shr_u64_40, shl_u64_40, shr_i64_4, shl_i64_4, shr_i64_8, shl_i64_8, shr_i64_16, shl_i64_16, shr_i64_24, shl_i64_24, shr_i64_40, shl_i64_40]; omega)
    | ((with_reducible refine Arith.u16 ?_ ?_); simp (discharger := omega) only [Int.tdiv_eq_ediv_of_nonneg, shr_u8_4, shl_u8_4, shr_u16_4, shl_u16_4, shr_u16_8, shl_u16_8, shr_u32_4, shl_u32_4, shr_u32_8, shl_u32_8, shr_u32_16, shl_u32_16, shr_u32_24, shl_u32_24, shr_u64_4, shl_u64_4, shr_u64_8, shl_u64_8, shr_u64_16, shl_u64_16, shr_u64_24, shl_u64_24, shr_u64_40, shl_u64_40, shr_i64_4, shl_i64_4, shr_i64_8, shl_i64_8, shr_i64_16, shl_i64_16, shr_i64_24, shl_i64_24, shr_i64_40, shl_i64_40]; omega)
    | ((with_reducible refine Arith.u8 ?_ ?_); simp (discharger := omega) only [Int.tdiv_eq_ediv_of_nonneg, shr_u8_4, shl_u8_4, shr_u16_4, shl_u16_4, shr_u16_8, shl_u16_8, shr_u32_4, shl_u32_4, shr_u32_8, shl_u32_8, shr_u32_16, shl_u32_16, shr_u32_24, shl_u32_24, shr_u64_4, shl_u64_4, shr_u64_8, shl_u64_8, shr_u64_16, shl_u64_16, shr_u64_24, shl_u64_24, shr_u64_40, shl_u64_40, shr_i64_4, shl_i64_4, shr_i64_8, shl_i64_8, shr_i64_16, shl_i64_16, shr_i64_24, shl_i64_24, shr_i64_40, shl_i64_40]; omega)
    | (with_reducible refine Arith.mk ?_)
    | (with_reducible refine Ends.mk ?_))
    all_goals first | (refine ⟨?_, rfl⟩; (repeat (first | rw [if_pos (by omega)] at h1 | rw [if_neg (by omega)] at h1)); cases h1; rfl)
set_option maxHeartbeats 1000000 in
theorem tread_det (u : ByteArray) (h3 : u.size ≤ 40) (Rm Rs Re : Int) (h1 : optU (u.size + 1) u 0 (-1) = (Rm, Rs, Re)) : Det Try.prog 59 [.o (.str u)] [] (.t [.o (.int .u16 Rm), .o (.int .i64 Rs), .o (.int .i64 Re)]) [] := by
  have hb0 := bAt_bd u (Int.toNat 0)
  have hb1 := bAt_bd u (Int.toNat 1)
  have hb2 := bAt_bd u (Int.toNat 2)
  unfold optU at h1
  refine can_of_W known mix Try.func59 (by kernel_rfl) ok_tcp_read (Nat.le_of_ble_eq_true rfl) ?_
  repeat' ((conv => whnf); first
    | ((with_reducible refine Look.mk ?_); refine ⟨_, rfl, ?_⟩)
    | ((with_reducible refine LookN.zeros ?_))
    | ((with_reducible refine LookN.bytes ?_ ?_); (simp; done))
    | ((with_reducible refine BytesW.bytes ?_))
    | ((with_reducible refine Look.byte ?_ ?_); omega)
    | ((with_reducible refine Look.setb ?_ ?_ ?_); exact bv8_bd _; omega)
    | ((with_reducible refine LookN.setb ?_ ?_ ?_); exact bv8_bd _; omega)
    | ((with_reducible refine LookN.mk ?_); refine ⟨_, rfl, ?_⟩)
    | ((with_reducible refine Need.mk ?_ ?_); first | ((with_reducible refine needB ?_); kernel_rfl) | exact rfl | trivial | omega | exact Nat.le_of_ble_eq_true rfl | (exact ⟨rfl, by omega⟩) | (intro h; first | rfl | cases h) | (simp only [lenS_text, lenS_setN, lenS_zeros]; omega) | (simp only [ByteArray.size_append, size_lit, List.size_toArray, List.length_cons, List.length_nil, Sp.ofB_size, Sp.headB_size]; omega))
    | ((with_reducible refine BytesW.mk ?_); refine ⟨_, rfl, ?_⟩)
    | (with_reducible refine CallW.det (wordTwo _ _ (by unfold maxLen; omega) (by omega)) ?_)
    | (exact tread_loop Rm Rs Re u.size _ _ _ (by (repeat (first | rw [if_pos (by omega)] at h1 | rw [if_neg (by omega)] at h1)); exact h1) (by rw [ByteArray.size_extract]; omega) (by rw [ByteArray.size_extract]; omega))
    | ((with_reducible refine Test.empty (fun h => ?_) (fun h => ?_)))
    | (with_reducible refine Test.tt ?_)
    | (with_reducible refine Test.ff ?_)
    | ((with_reducible refine Test.dt ?_ ?_); omega)
    | ((with_reducible refine Test.df ?_ ?_); omega)
    | (with_reducible refine Test.d (fun h => ?_) (fun h => ?_))
    | ((with_reducible refine Test.ieT ?_ ?_); omega)
    | ((with_reducible refine Test.ieF ?_ ?_); omega)
    | ((with_reducible refine Test.neT ?_ ?_); omega)
    | ((with_reducible refine Test.neF ?_ ?_); omega)
    | (with_reducible refine Test.ie (fun h => ?_) (fun h => ?_))
    | (with_reducible refine Test.ne (fun h => ?_) (fun h => ?_))
    | ((with_reducible refine Test.b ?_ ?_); (focus first | assumption | (simp [negB]; done) | exact rfl))
    | ((with_reducible refine Test.nb ?_ ?_); (focus first | assumption | (simp [negB]; done) | exact rfl))
    | (with_reducible refine Test.mk (fun h => ?_) (fun h => ?_))
    | (with_reducible refine Arith.bv8 ?_)
    | (with_reducible refine Arith.bv16 ?_)
    | (with_reducible refine Arith.bv32 ?_)
    | (with_reducible refine Arith.bv64 ?_)
    | ((with_reducible refine Arith.i64 ?_ ?_); omega)
    | ((with_reducible refine Arith.u64 ?_ ?_); omega)
    | ((with_reducible refine Arith.u32 ?_ ?_); omega)
    | ((with_reducible refine Arith.u16 ?_ ?_); omega)
    | ((with_reducible refine Arith.u8 ?_ ?_); omega)
    | ((with_reducible refine Arith.i32 ?_ ?_); omega)
    | ((with_reducible refine Arith.i64 ?_ ?_); simp (discharger := omega) only [Int.tdiv_eq_ediv_of_nonneg, shr_u8_4, shl_u8_4, shr_u16_4, shl_u16_4, shr_u16_8, shl_u16_8, shr_u32_4, shl_u32_4, shr_u32_8, shl_u32_8, shr_u32_16, shl_u32_16, shr_u32_24, shl_u32_24, shr_u64_4, shl_u64_4, shr_u64_8, shl_u64_8, shr_u64_16, shl_u64_16, shr_u64_24, shl_u64_24, shr_u64_40, shl_u64_40, shr_i64_4, shl_i64_4, shr_i64_8, shl_i64_8, shr_i64_16, shl_i64_16, shr_i64_24, shl_i64_24, shr_i64_40, shl_i64_40]; omega)
    | ((with_reducible refine Arith.u64 ?_ ?_); simp (discharger := omega) only [Int.tdiv_eq_ediv_of_nonneg, shr_u8_4, shl_u8_4, shr_u16_4, shl_u16_4, shr_u16_8, shl_u16_8, shr_u32_4, shl_u32_4, shr_u32_8, shl_u32_8, shr_u32_16, shl_u32_16, shr_u32_24, shl_u32_24, shr_u64_4, shl_u64_4, shr_u64_8, shl_u64_8, shr_u64_16, shl_u64_16, shr_u64_24, shl_u64_24, shr_u64_40, shl_u64_40, shr_i64_4, shl_i64_4, shr_i64_8, shl_i64_8, shr_i64_16, shl_i64_16, shr_i64_24, shl_i64_24, shr_i64_40, shl_i64_40]; omega)
    | ((with_reducible refine Arith.u32 ?_ ?_); simp (discharger := omega) only [Int.tdiv_eq_ediv_of_nonneg, shr_u8_4, shl_u8_4, shr_u16_4, shl_u16_4, shr_u16_8, shl_u16_8, shr_u32_4, shl_u32_4, shr_u32_8, shl_u32_8, shr_u32_16, shl_u32_16, shr_u32_24, shl_u32_24, shr_u64_4, shl_u64_4, shr_u64_8, shl_u64_8, shr_u64_16, shl_u64_16, shr_u64_24, shl_u64_24, shr_u64_40, shl_u64_40, shr_i64_4, shl_i64_4, shr_i64_8, shl_i64_8, shr_i64_16, shl_i64_16, shr_i64_24, shl_i64_24, shr_i64_40, shl_i64_40]; omega)
    | ((with_reducible refine Arith.u16 ?_ ?_); simp (discharger := omega) only [Int.tdiv_eq_ediv_of_nonneg, shr_u8_4, shl_u8_4, shr_u16_4, shl_u16_4, shr_u16_8, shl_u16_8, shr_u32_4, shl_u32_4, shr_u32_8, shl_u32_8, shr_u32_16, shl_u32_16, shr_u32_24, shl_u32_24, shr_u64_4, shl_u64_4, shr_u64_8, shl_u64_8, shr_u64_16, shl_u64_16, shr_u64_24, shl_u64_24, shr_u64_40, shl_u64_40, shr_i64_4, shl_i64_4, shr_i64_8, shl_i64_8, shr_i64_16, shl_i64_16, shr_i64_24, shl_i64_24, shr_i64_40, shl_i64_40]; omega)
    | ((with_reducible refine Arith.u8 ?_ ?_); simp (discharger := omega) only [Int.tdiv_eq_ediv_of_nonneg, shr_u8_4, shl_u8_4, shr_u16_4, shl_u16_4, shr_u16_8, shl_u16_8, shr_u32_4, shl_u32_4, shr_u32_8, shl_u32_8, shr_u32_16, shl_u32_16, shr_u32_24, shl_u32_24, shr_u64_4, shl_u64_4, shr_u64_8, shl_u64_8, shr_u64_16, shl_u64_16, shr_u64_24, shl_u64_24, shr_u64_40, shl_u64_40, shr_i64_4, shl_i64_4, shr_i64_8, shl_i64_8, shr_i64_16, shl_i64_16, shr_i64_24, shl_i64_24, shr_i64_40, shl_i64_40]; omega)
    | (with_reducible refine Arith.mk ?_)
    | (with_reducible refine Ends.mk ?_))
  all_goals first | (refine ⟨?_, rfl⟩; (repeat (first | rw [if_pos (by omega)] at h1 | rw [if_neg (by omega)] at h1)); cases h1; rfl)
set_option maxHeartbeats 1000000 in
theorem rNum2 (s : ByteArray) (p : Int) (hs : s.size ≤ 140737488355328) (hp : 0 ≤ p) (hp2 : p + 2 ≤ s.size) : Det Try.prog 56 [.o (.str s), .o (.int .i64 p), .o (.int .i64 2)] [] (.t [.o (.int .u64 (256 * bAt s p.toNat + bAt s (p + 1).toNat)), .o (.int .i64 0)]) [] := by
  have b0 := bAt_bd s (p + 0).toNat
  have b1 := bAt_bd s (p + (0 + 1)).toNat
  refine can_of_W known mix Try.func56 (by kernel_rfl) ok_ref01_Num (Nat.le_of_ble_eq_true rfl) ?_
  repeat' ((conv => whnf); first
    | ((with_reducible refine Look.mk ?_); refine ⟨_, rfl, ?_⟩)
    | ((with_reducible refine LookN.zeros ?_))
    | ((with_reducible refine LookN.bytes ?_ ?_); (simp; done))
    | ((with_reducible refine BytesW.bytes ?_))
    | ((with_reducible refine Look.byte ?_ ?_); omega)
    | ((with_reducible refine Look.setb ?_ ?_ ?_); exact bv8_bd _; omega)
    | ((with_reducible refine LookN.setb ?_ ?_ ?_); exact bv8_bd _; omega)
    | ((with_reducible refine LookN.mk ?_); refine ⟨_, rfl, ?_⟩)
    | ((with_reducible refine Need.mk ?_ ?_); first | ((with_reducible refine needB ?_); kernel_rfl) | exact rfl | trivial | omega | exact Nat.le_of_ble_eq_true rfl | (exact ⟨rfl, by omega⟩) | (intro h; first | rfl | cases h) | (simp only [lenS_text, lenS_setN, lenS_zeros]; omega) | (simp only [ByteArray.size_append, size_lit, List.size_toArray, List.length_cons, List.length_nil, Sp.ofB_size, Sp.headB_size]; omega))
    | ((with_reducible refine BytesW.mk ?_); refine ⟨_, rfl, ?_⟩)
    | (with_reducible refine LoopW.unroll (fun X hX => ?_))
    | (refine hX _ _ ?_)
    | ((with_reducible refine Test.empty (fun h => ?_) (fun h => ?_)))
    | (with_reducible refine Test.tt ?_)
    | (with_reducible refine Test.ff ?_)
    | ((with_reducible refine Test.dt ?_ ?_); omega)
    | ((with_reducible refine Test.df ?_ ?_); omega)
    | (with_reducible refine Test.d (fun h => ?_) (fun h => ?_))
    | ((with_reducible refine Test.ieT ?_ ?_); omega)
    | ((with_reducible refine Test.ieF ?_ ?_); omega)
    | ((with_reducible refine Test.neT ?_ ?_); omega)
    | ((with_reducible refine Test.neF ?_ ?_); omega)
    | (with_reducible refine Test.ie (fun h => ?_) (fun h => ?_))
    | (with_reducible refine Test.ne (fun h => ?_) (fun h => ?_))
    | ((with_reducible refine Test.b ?_ ?_); (focus first | assumption | (simp [negB]; done) | exact rfl))
    | ((with_reducible refine Test.nb ?_ ?_); (focus first | assumption | (simp [negB]; done) | exact rfl))
    | (with_reducible refine Test.mk (fun h => ?_) (fun h => ?_))
    | (with_reducible refine Arith.bv8 ?_)
    | (with_reducible refine Arith.bv16 ?_)
    | (with_reducible refine Arith.bv32 ?_)
    | (with_reducible refine Arith.bv64 ?_)
    | ((with_reducible refine Arith.i64 ?_ ?_); omega)
    | ((with_reducible refine Arith.u64 ?_ ?_); omega)
    | ((with_reducible refine Arith.u32 ?_ ?_); omega)
    | ((with_reducible refine Arith.u16 ?_ ?_); omega)
    | ((with_reducible refine Arith.u8 ?_ ?_); omega)
    | ((with_reducible refine Arith.i32 ?_ ?_); omega)
    | ((with_reducible refine Arith.i64 ?_ ?_); simp (discharger := omega) only [Int.tdiv_eq_ediv_of_nonneg, shr_u8_4, shl_u8_4, shr_u16_4, shl_u16_4, shr_u16_8, shl_u16_8, shr_u32_4, shl_u32_4, shr_u32_8, shl_u32_8, shr_u32_16, shl_u32_16, shr_u32_24, shl_u32_24, shr_u64_4, shl_u64_4, shr_u64_8, shl_u64_8, shr_u64_16, shl_u64_16, shr_u64_24, shl_u64_24, shr_u64_40, shl_u64_40, shr_i64_4, shl_i64_4, shr_i64_8, shl_i64_8, shr_i64_16, shl_i64_16, shr_i64_24, shl_i64_24, shr_i64_40, shl_i64_40]; omega)
    | ((with_reducible refine Arith.u64 ?_ ?_); simp (discharger := omega) only [Int.tdiv_eq_ediv_of_nonneg, shr_u8_4, shl_u8_4, shr_u16_4, shl_u16_4, shr_u16_8, shl_u16_8, shr_u32_4, shl_u32_4, shr_u32_8, shl_u32_8, shr_u32_16, shl_u32_16, shr_u32_24, shl_u32_24, shr_u64_4, shl_u64_4, shr_u64_8, shl_u64_8, shr_u64_16, shl_u64_16, shr_u64_24, shl_u64_24, shr_u64_40, shl_u64_40, shr_i64_4, shl_i64_4, shr_i64_8, shl_i64_8, shr_i64_16, shl_i64_16, shr_i64_24, shl_i64_24, shr_i64_40, shl_i64_40]; omega)
    | ((with_reducible refine Arith.u32 ?_ ?_); simp (discharger := omega) only [Int.tdiv_eq_ediv_of_nonneg, shr_u8_4, shl_u8_4, shr_u16_4, shl_u16_4, shr_u16_8, shl_u16_8, shr_u32_4, shl_u32_4, shr_u32_8, shl_u32_8, shr_u32_16, shl_u32_16, shr_u32_24, shl_u32_24, shr_u64_4, shl_u64_4, shr_u64_8, shl_u64_8, shr_u64_16, shl_u64_16, shr_u64_24, shl_u64_24, shr_u64_40, shl_u64_40, shr_i64_4, shl_i64_4, shr_i64_8, shl_i64_8, shr_i64_16, shl_i64_16, shr_i64_24, shl_i64_24, shr_i64_40, shl_i64_40]; omega)
    | ((with_reducible refine Arith.u16 ?_ ?_); simp (discharger := omega) only [Int.tdiv_eq_ediv_of_nonneg, shr_u8_4, shl_u8_4, shr_u16_4, shl_u16_4, shr_u16_8, shl_u16_8, shr_u32_4, shl_u32_4, shr_u32_8, shl_u32_8, shr_u32_16, shl_u32_16, shr_u32_24, shl_u32_24, shr_u64_4, shl_u64_4, shr_u64_8, shl_u64_8, shr_u64_16, shl_u64_16, shr_u64_24, shl_u64_24, shr_u64_40, shl_u64_40, shr_i64_4, shl_i64_4, shr_i64_8, shl_i64_8, shr_i64_16, shl_i64_16, shr_i64_24, shl_i64_24, shr_i64_40, shl_i64_40]; omega)
    | ((with_reducible refine Arith.u8 ?_ ?_); simp (discharger := omega) only [Int.tdiv_eq_ediv_of_nonneg, shr_u8_4, shl_u8_4, shr_u16_4, shl_u16_4, shr_u16_8, shl_u16_8, shr_u32_4, shl_u32_4, shr_u32_8, shl_u32_8, shr_u32_16, shl_u32_16, shr_u32_24, shl_u32_24, shr_u64_4, shl_u64_4, shr_u64_8, shl_u64_8, shr_u64_16, shl_u64_16, shr_u64_24, shl_u64_24, shr_u64_40, shl_u64_40, shr_i64_4, shl_i64_4, shr_i64_8, shl_i64_8, shr_i64_16, shl_i64_16, shr_i64_24, shl_i64_24, shr_i64_40, shl_i64_40]; omega)
    | (with_reducible refine Arith.mk ?_)
    | (with_reducible refine Ends.mk ?_))
  all_goals first | exact ⟨rfl, rfl⟩ | (refine ⟨?_, rfl⟩; simp; done)
/-- A head's bytes, as it says. -/
def hl16 (s : ByteArray) : Int := 4 * (bAt s (Int.toNat 12) / 16)
def opt16 (s : ByteArray) : Int × Int × Int := optU ((s.extract 20 (hl16 s).toNat).size + 1) (s.extract 20 (hl16 s).toNat) 0 (-1)
def right16 (x y : Int) (s : ByteArray) : Bool := Sp.sumB (Sp.headB x y 6 s.size ++ s) == 65535
def dec16e (x y : Int) (s : ByteArray) : Int := if s.size < 20 then 10 else if hl16 s < 20 then 8 else if (s.size : Int) < hl16 s then 10 else if right16 x y s = false then 101 else (opt16 s).2.2
def fl16 (s : ByteArray) : Int := (((BitVec.ofInt IntKind.u8.bits (bAt s (Int.toNat 13)) &&& BitVec.ofInt IntKind.u8.bits 63).toNat : Nat) : Int)
def dec16 (x y : Int) (s : ByteArray) : List SV := if dec16e x y s = 0 then seg x (n2 s 0) y (n2 s 2) (n4 s 4) (n4 s 8) (fl16 s) (n2 s 14) (n2 s 18) (if flag (fl16 s) 2 then (opt16 s).1 else 0) (if flag (fl16 s) 2 then (opt16 s).2.1 else -1) (s.extract (hl16 s).toNat s.size) else seg 0 0 0 0 0 0 0 0 0 0 0 ⟨#[]⟩
theorem dec_short (x y : Int) (s : ByteArray) (h : (s.size : Int) < 20) : dec16e x y s = 10 := by unfold dec16e; rw [if_pos (by omega)]
theorem dec_form (x y : Int) (s : ByteArray) (h : ¬ (s.size : Int) < 20) (h2 : 4 * (bAt s (Int.toNat 12) / 16) < 20) : dec16e x y s = 8 := by
  have e : hl16 s = 4 * (bAt s (Int.toNat 12) / 16) := rfl
  unfold dec16e; rw [e, if_neg (by omega), if_pos h2]
theorem dec_cut (x y : Int) (s : ByteArray) (h : ¬ (s.size : Int) < 20) (h2 : ¬ 4 * (bAt s (Int.toNat 12) / 16) < 20) (h3 : (s.size : Int) < 4 * (bAt s (Int.toNat 12) / 16)) : dec16e x y s = 10 := by
  have e : hl16 s = 4 * (bAt s (Int.toNat 12) / 16) := rfl
  unfold dec16e; rw [e, if_neg (by omega), if_neg h2, if_pos h3]
theorem dec_sum (x y : Int) (s : ByteArray) (h : ¬ (s.size : Int) < 20) (h2 : ¬ 4 * (bAt s (Int.toNat 12) / 16) < 20) (h3 : ¬ (s.size : Int) < 4 * (bAt s (Int.toNat 12) / 16)) (h4 : (!Sp.sumB (Sp.headB x y 6 s.size ++ s) == 65535) = true) : dec16e x y s = 101 := by
  have e : hl16 s = 4 * (bAt s (Int.toNat 12) / 16) := rfl
  unfold dec16e; rw [e, if_neg (by omega), if_neg h2, if_neg h3, if_pos (by unfold right16; simpa using h4)]
theorem dec_opt (x y : Int) (s : ByteArray) (Rm Rs Re : Int) (h1 : opt16 s = (Rm, Rs, Re)) (h : ¬ (s.size : Int) < 20) (h2 : ¬ 4 * (bAt s (Int.toNat 12) / 16) < 20) (h3 : ¬ (s.size : Int) < 4 * (bAt s (Int.toNat 12) / 16)) (h4 : (!Sp.sumB (Sp.headB x y 6 s.size ++ s) == 65535) = false) : dec16e x y s = Re := by
  have e : hl16 s = 4 * (bAt s (Int.toNat 12) / 16) := rfl
  unfold dec16e; rw [e, if_neg (by omega), if_neg h2, if_neg h3, if_neg (by unfold right16; simpa using h4), h1]
theorem dec_yes (x y : Int) (s : ByteArray) (Rm Rs Re : Int) (h1 : opt16 s = (Rm, Rs, Re)) (h : dec16e x y s = 0) : dec16 x y s = seg x (n2 s 0) y (n2 s 2) (n4 s 4) (n4 s 8) (fl16 s) (n2 s 14) (n2 s 18) (if flag (fl16 s) 2 then Rm else 0) (if flag (fl16 s) 2 then Rs else -1) (s.extract (hl16 s).toNat s.size) := by
  unfold dec16; rw [if_pos h, h1]
theorem dec_none (x y : Int) (s : ByteArray) (h : dec16e x y s ≠ 0) : dec16 x y s = seg 0 0 0 0 0 0 0 0 0 0 0 ⟨#[]⟩ := if_neg h
set_option maxHeartbeats 6000000 in
theorem tdec_look (x y : Int) (s : ByteArray) (hs : s.size ≤ 1000000) (hx : 0 ≤ x ∧ x ≤ 4294967295) (hy : 0 ≤ y ∧ y ≤ 4294967295) (Rm Rs Re : Int) (h1 : opt16 s = (Rm, Rs, Re)) : Det Try.prog 38 [.o (.int .u32 x), .o (.int .u32 y), .o (.str s)] [] (.t [.a (dec16 x y s), .o (.int .i64 (dec16e x y s))]) [] := by
  have b12 := bAt_bd s (Int.toNat 12)
  have RD : (s.extract (Int.toNat 20) (4 * (bAt s (Int.toNat 12) / 16)).toNat).size ≤ 40 → Det Try.prog 59 [.o (.str (s.extract (Int.toNat 20) (4 * (bAt s (Int.toNat 12) / 16)).toNat))] [] (.t [.o (.int .u16 Rm), .o (.int .i64 Rs), .o (.int .i64 Re)]) [] := fun h => tread_det _ h Rm Rs Re h1
  refine can_of_W known mix Try.func38 (by kernel_rfl) ok_tcp_Decode (Nat.le_of_ble_eq_true rfl) ?_
  repeat' ((conv => whnf); first
    | ((with_reducible refine Look.mk ?_); refine ⟨_, rfl, ?_⟩)
    | ((with_reducible refine LookN.zeros ?_))
    | ((with_reducible refine LookN.bytes ?_ ?_); (simp; done))
    | ((with_reducible refine BytesW.bytes ?_))
    | ((with_reducible refine Look.byte ?_ ?_); omega)
    | ((with_reducible refine Look.setb ?_ ?_ ?_); exact bv8_bd _; omega)
    | ((with_reducible refine LookN.setb ?_ ?_ ?_); exact bv8_bd _; omega)
    | ((with_reducible refine LookN.mk ?_); refine ⟨_, rfl, ?_⟩)
    | ((with_reducible refine Need.mk ?_ ?_); first | ((with_reducible refine needB ?_); kernel_rfl) | exact rfl | trivial | omega | exact Nat.le_of_ble_eq_true rfl | (exact ⟨rfl, by omega⟩) | (intro h; first | rfl | cases h) | (simp only [lenS_text, lenS_setN, lenS_zeros]; omega) | (simp only [ByteArray.size_append, size_lit, List.size_toArray, List.length_cons, List.length_nil, Sp.ofB_size, Sp.headB_size]; omega))
    | ((with_reducible refine BytesW.mk ?_); refine ⟨_, rfl, ?_⟩)
    | (with_reducible refine CallW.det (wordTwo _ _ (by unfold maxLen; omega) (by omega)) ?_)
    | (with_reducible refine CallW.det (wordFour _ _ (by unfold maxLen; omega) (by omega)) ?_)
    | (with_reducible refine CallW.det (sumRight2 _ _ _ _ (by simp only [Sp.headB_size]; omega)) ?_)
    | (with_reducible refine CallW.det (sumHead_det _ _ _ _ (by omega) (by omega) (by omega) (by omega)) ?_)
    | (with_reducible refine CallW.det (has_det ..) ?_)
    | (with_reducible refine CallW.det (has1_det ..) ?_)
    | (with_reducible refine CallW.det (RD (by rw [ByteArray.size_extract]; omega)) ?_)
    | ((with_reducible refine Arith.shr8 ?_ ?_); omega)
    | ((with_reducible refine Test.empty (fun h => ?_) (fun h => ?_)))
    | (with_reducible refine Test.tt ?_)
    | (with_reducible refine Test.ff ?_)
    | ((with_reducible refine Test.dt ?_ ?_); omega)
    | ((with_reducible refine Test.df ?_ ?_); omega)
    | (with_reducible refine Test.d (fun h => ?_) (fun h => ?_))
    | ((with_reducible refine Test.ieT ?_ ?_); omega)
    | ((with_reducible refine Test.ieF ?_ ?_); omega)
    | ((with_reducible refine Test.neT ?_ ?_); omega)
    | ((with_reducible refine Test.neF ?_ ?_); omega)
    | (with_reducible refine Test.ie (fun h => ?_) (fun h => ?_))
    | (with_reducible refine Test.ne (fun h => ?_) (fun h => ?_))
    | ((with_reducible refine Test.b ?_ ?_); (focus first | assumption | (simp [negB]; done) | exact rfl))
    | ((with_reducible refine Test.nb ?_ ?_); (focus first | assumption | (simp [negB]; done) | exact rfl))
    | (with_reducible refine Test.mk (fun h => ?_) (fun h => ?_))
    | (with_reducible refine Arith.bv8 ?_)
    | (with_reducible refine Arith.bv16 ?_)
    | (with_reducible refine Arith.bv32 ?_)
    | (with_reducible refine Arith.bv64 ?_)
    | ((with_reducible refine Arith.i64 ?_ ?_); omega)
    | ((with_reducible refine Arith.u64 ?_ ?_); omega)
    | ((with_reducible refine Arith.u32 ?_ ?_); omega)
    | ((with_reducible refine Arith.u16 ?_ ?_); omega)
    | ((with_reducible refine Arith.u8 ?_ ?_); omega)
    | ((with_reducible refine Arith.i32 ?_ ?_); omega)
    | ((with_reducible refine Arith.i64 ?_ ?_); simp (discharger := omega) only [Int.tdiv_eq_ediv_of_nonneg, shr_u8_4, shl_u8_4, shr_u16_4, shl_u16_4, shr_u16_8, shl_u16_8, shr_u32_4, shl_u32_4, shr_u32_8, shl_u32_8, shr_u32_16, shl_u32_16, shr_u32_24, shl_u32_24, shr_u64_4, shl_u64_4, shr_u64_8, shl_u64_8, shr_u64_16, shl_u64_16, shr_u64_24, shl_u64_24, shr_u64_40, shl_u64_40, shr_i64_4, shl_i64_4, shr_i64_8, shl_i64_8, shr_i64_16, shl_i64_16, shr_i64_24, shl_i64_24, shr_i64_40, shl_i64_40]; omega)
    | ((with_reducible refine Arith.u64 ?_ ?_); simp (discharger := omega) only [Int.tdiv_eq_ediv_of_nonneg, shr_u8_4, shl_u8_4, shr_u16_4, shl_u16_4, shr_u16_8, shl_u16_8, shr_u32_4, shl_u32_4, shr_u32_8, shl_u32_8, shr_u32_16, shl_u32_16, shr_u32_24, shl_u32_24, shr_u64_4, shl_u64_4, shr_u64_8, shl_u64_8, shr_u64_16, shl_u64_16, shr_u64_24, shl_u64_24, shr_u64_40, shl_u64_40, shr_i64_4, shl_i64_4, shr_i64_8, shl_i64_8, shr_i64_16, shl_i64_16, shr_i64_24, shl_i64_24, shr_i64_40, shl_i64_40]; omega)
    | ((with_reducible refine Arith.u32 ?_ ?_); simp (discharger := omega) only [Int.tdiv_eq_ediv_of_nonneg, shr_u8_4, shl_u8_4, shr_u16_4, shl_u16_4, shr_u16_8, shl_u16_8, shr_u32_4, shl_u32_4, shr_u32_8, shl_u32_8, shr_u32_16, shl_u32_16, shr_u32_24, shl_u32_24, shr_u64_4, shl_u64_4, shr_u64_8, shl_u64_8, shr_u64_16, shl_u64_16, shr_u64_24, shl_u64_24, shr_u64_40, shl_u64_40, shr_i64_4, shl_i64_4, shr_i64_8, shl_i64_8, shr_i64_16, shl_i64_16, shr_i64_24, shl_i64_24, shr_i64_40, shl_i64_40]; omega)
    | ((with_reducible refine Arith.u16 ?_ ?_); simp (discharger := omega) only [Int.tdiv_eq_ediv_of_nonneg, shr_u8_4, shl_u8_4, shr_u16_4, shl_u16_4, shr_u16_8, shl_u16_8, shr_u32_4, shl_u32_4, shr_u32_8, shl_u32_8, shr_u32_16, shl_u32_16, shr_u32_24, shl_u32_24, shr_u64_4, shl_u64_4, shr_u64_8, shl_u64_8, shr_u64_16, shl_u64_16, shr_u64_24, shl_u64_24, shr_u64_40, shl_u64_40, shr_i64_4, shl_i64_4, shr_i64_8, shl_i64_8, shr_i64_16, shl_i64_16, shr_i64_24, shl_i64_24, shr_i64_40, shl_i64_40]; omega)
    | ((with_reducible refine Arith.u8 ?_ ?_); simp (discharger := omega) only [Int.tdiv_eq_ediv_of_nonneg, shr_u8_4, shl_u8_4, shr_u16_4, shl_u16_4, shr_u16_8, shl_u16_8, shr_u32_4, shl_u32_4, shr_u32_8, shl_u32_8, shr_u32_16, shl_u32_16, shr_u32_24, shl_u32_24, shr_u64_4, shl_u64_4, shr_u64_8, shl_u64_8, shr_u64_16, shl_u64_16, shr_u64_24, shl_u64_24, shr_u64_40, shl_u64_40, shr_i64_4, shl_i64_4, shr_i64_8, shl_i64_8, shr_i64_16, shl_i64_16, shr_i64_24, shl_i64_24, shr_i64_40, shl_i64_40]; omega)
    | (with_reducible refine Arith.mk ?_)
    | (with_reducible refine Ends.mk ?_))
  all_goals clear RD
  all_goals first
    | (refine ⟨?_, rfl⟩; have hE := dec_short x y s (by assumption); rw [dec_none x y s (by rw [hE]; decide), hE])
    | (refine ⟨?_, rfl⟩; have hE := dec_form x y s (by assumption) (by assumption); rw [dec_none x y s (by rw [hE]; decide), hE])
    | (refine ⟨?_, rfl⟩; have hE := dec_cut x y s (by assumption) (by assumption) (by assumption); rw [dec_none x y s (by rw [hE]; decide), hE])
    | (refine ⟨?_, rfl⟩; have hE := dec_sum x y s (by assumption) (by assumption) (by assumption) (by assumption); rw [dec_none x y s (by rw [hE]; decide), hE])
    | (refine ⟨?_, rfl⟩; have hE := dec_opt x y s Rm Rs Re h1 (by assumption) (by assumption) (by assumption) (by assumption); rw [dec_none x y s (by rw [hE]; assumption), hE])
    | (refine ⟨?_, rfl⟩; have hE := (dec_opt x y s Rm Rs Re h1 (by assumption) (by assumption) (by assumption) (by assumption)).trans (show Re = 0 by assumption); rw [dec_yes x y s Rm Rs Re h1 hE, hE, if_pos (bne_iff_ne.2 (by assumption)), if_pos (bne_iff_ne.2 (by assumption))]; rfl)
    | (refine ⟨?_, rfl⟩; have hE := (dec_opt x y s Rm Rs Re h1 (by assumption) (by assumption) (by assumption) (by assumption)).trans (show Re = 0 by assumption); rw [dec_yes x y s Rm Rs Re h1 hE, hE, if_neg (fun e => absurd (by assumption) (bne_iff_ne.1 e)), if_neg (fun e => absurd (by assumption) (bne_iff_ne.1 e))]; rfl)
end L16
end Go.Proofs.Ytlpeefemffmpmaa.VM
