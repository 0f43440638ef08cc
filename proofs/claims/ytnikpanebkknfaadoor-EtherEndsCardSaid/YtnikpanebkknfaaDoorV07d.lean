/- law 07 by the evaluator: texts of digits of sixteen. -/
import Derived.Test.YtnikpanebkknfaaDoorB4
namespace Go.Proofs.YtnikpanebkknfaaDoor.VM
namespace G4
open Go.RowKit
set_option linter.unusedVariables false
set_option linter.unusedSimpArgs false
set_option maxRecDepth 100000
variable {G : Ground}
def vf_istrconv_ParseUint : VFn := ⟨(.seq (.reg [
    ⟨(some 6), .mv (.c (.p (.o (.int .u64 0)))), none, 0⟩,
    ⟨(some 7), .mv (.c (.p (.o (.nili)))), none, 0⟩] 0 none) (.seq (.seq (.reg [
    ⟨(some 18), .mv (.t 0), none, 0⟩,
    ⟨(some 19), .bin .eql (.t 18) (.c (.p (.o (.str ⟨#[]⟩)))), none, 0⟩] 0 none) (.cond (.t 19) (.seq (.reg [
    ⟨(some 20), .mki 125 (.c (.p (.o (.int .i64 2)))), none, 0⟩,
    ⟨(some 6), .mv (.c (.p (.o (.int .u64 0)))), none, 0⟩,
    ⟨(some 7), .mv (.t 20), none, 0⟩] 0 none) .ret) .skip)) (.seq (.reg [
    ⟨(some 21), .mv (.t 1), none, 0⟩,
    ⟨(some 22), .bin .eql (.t 21) (.c (.p (.o (.int .i64 0)))), none, 0⟩,
    ⟨(some 8), .mv (.t 22), none, 0⟩] 0 none) (.seq (.reg [
    ⟨(some 23), .mv (.t 0), none, 0⟩,
    ⟨(some 9), .mv (.t 23), none, 0⟩] 0 none) (.seq (.block 0 (.seq (.reg [
    ⟨(some 26), .mv (.t 1), none, 0⟩,
    ⟨(some 27), .bin .leq (.c (.p (.o (.int .i64 2)))) (.t 26), none, 0⟩,
    ⟨(some 28), .mv (.t 27), none, 0⟩,
    ⟨(some 29), .mv (.t 1), (some (28, true)), 0⟩,
    ⟨(some 30), .bin .leq (.t 29) (.c (.p (.o (.int .i64 36)))), (some (28, true)), 0⟩,
    ⟨(some 31), .pick (.t 28) (.t 30) (.c (.p (.o (.bool false)))), none, 0⟩,
    ⟨(some 25), .mv (.t 31), none, 0⟩] 0 none) (.cond (.t 25) .skip (.seq (.reg [
    ⟨(some 33), .mv (.t 1), none, 0⟩,
    ⟨(some 34), .bin .eql (.t 33) (.c (.p (.o (.int .i64 0)))), none, 0⟩,
    ⟨(some 32), .mv (.t 34), none, 0⟩] 0 none) (.cond (.t 32) (.seq (.reg [
    ⟨(some 1), .mv (.c (.p (.o (.int .i64 10)))), none, 0⟩] 0 none) (.seq (.reg [
    ⟨(some 35), .mv (.t 0), none, 0⟩,
    ⟨(some 36), .ixs (.t 35) (.c (.p (.o (.int .i64 0)))), none, 0⟩,
    ⟨(some 37), .bin .eql (.t 36) (.c (.p (.o (.int .u8 48)))), none, 0⟩] 0 none) (.cond (.t 37) (.block 1 (.seq (.reg [
    ⟨(some 41), .mv (.t 0), none, 0⟩,
    ⟨(some 42), .len false (.t 41), none, 0⟩,
    ⟨(some 43), .bin .geq (.t 42) (.c (.p (.o (.int .i64 3)))), none, 0⟩,
    ⟨(some 44), .mv (.t 43), none, 0⟩,
    ⟨(some 45), .mv (.t 0), (some (44, true)), 0⟩,
    ⟨(some 46), .ixs (.t 45) (.c (.p (.o (.int .i64 1)))), (some (44, true)), 0⟩,
    ⟨(some 47), .call 91 [(.t 46)] 0, (some (44, true)), 0⟩,
    ⟨(some 48), .bin .eql (.t 47) (.c (.p (.o (.int .u8 98)))), (some (44, true)), 0⟩,
    ⟨(some 49), .pick (.t 44) (.t 48) (.c (.p (.o (.bool false)))), none, 0⟩,
    ⟨(some 40), .mv (.t 49), none, 0⟩] 0 none) (.cond (.t 40) (.seq (.reg [
    ⟨(some 1), .mv (.c (.p (.o (.int .i64 2)))), none, 0⟩] 0 none) (.reg [
    ⟨(some 50), .mv (.t 0), none, 0⟩,
    ⟨(some 51), .sls (.t 50) (some (.c (.p (.o (.int .i64 2))))) none, none, 0⟩,
    ⟨(some 0), .mv (.t 51), none, 0⟩] 0 none)) (.seq (.reg [
    ⟨(some 53), .mv (.t 0), none, 0⟩,
    ⟨(some 54), .len false (.t 53), none, 0⟩,
    ⟨(some 55), .bin .geq (.t 54) (.c (.p (.o (.int .i64 3)))), none, 0⟩,
    ⟨(some 56), .mv (.t 55), none, 0⟩,
    ⟨(some 57), .mv (.t 0), (some (56, true)), 0⟩,
    ⟨(some 58), .ixs (.t 57) (.c (.p (.o (.int .i64 1)))), (some (56, true)), 0⟩,
    ⟨(some 59), .call 91 [(.t 58)] 0, (some (56, true)), 0⟩,
    ⟨(some 60), .bin .eql (.t 59) (.c (.p (.o (.int .u8 111)))), (some (56, true)), 0⟩,
    ⟨(some 61), .pick (.t 56) (.t 60) (.c (.p (.o (.bool false)))), none, 0⟩,
    ⟨(some 52), .mv (.t 61), none, 0⟩] 0 none) (.cond (.t 52) (.seq (.reg [
    ⟨(some 1), .mv (.c (.p (.o (.int .i64 8)))), none, 0⟩] 0 none) (.reg [
    ⟨(some 62), .mv (.t 0), none, 0⟩,
    ⟨(some 63), .sls (.t 62) (some (.c (.p (.o (.int .i64 2))))) none, none, 0⟩,
    ⟨(some 0), .mv (.t 63), none, 0⟩] 0 none)) (.seq (.reg [
    ⟨(some 65), .mv (.t 0), none, 0⟩,
    ⟨(some 66), .len false (.t 65), none, 0⟩,
    ⟨(some 67), .bin .geq (.t 66) (.c (.p (.o (.int .i64 3)))), none, 0⟩,
    ⟨(some 68), .mv (.t 67), none, 0⟩,
    ⟨(some 69), .mv (.t 0), (some (68, true)), 0⟩,
    ⟨(some 70), .ixs (.t 69) (.c (.p (.o (.int .i64 1)))), (some (68, true)), 0⟩,
    ⟨(some 71), .call 91 [(.t 70)] 0, (some (68, true)), 0⟩,
    ⟨(some 72), .bin .eql (.t 71) (.c (.p (.o (.int .u8 120)))), (some (68, true)), 0⟩,
    ⟨(some 73), .pick (.t 68) (.t 72) (.c (.p (.o (.bool false)))), none, 0⟩,
    ⟨(some 64), .mv (.t 73), none, 0⟩] 0 none) (.cond (.t 64) (.seq (.reg [
    ⟨(some 1), .mv (.c (.p (.o (.int .i64 16)))), none, 0⟩] 0 none) (.reg [
    ⟨(some 74), .mv (.t 0), none, 0⟩,
    ⟨(some 75), .sls (.t 74) (some (.c (.p (.o (.int .i64 2))))) none, none, 0⟩,
    ⟨(some 0), .mv (.t 75), none, 0⟩] 0 none)) (.seq (.reg [
    ⟨(some 1), .mv (.c (.p (.o (.int .i64 8)))), none, 0⟩] 0 none) (.reg [
    ⟨(some 38), .mv (.t 0), none, 0⟩,
    ⟨(some 39), .sls (.t 38) (some (.c (.p (.o (.int .i64 1))))) none, none, 0⟩,
    ⟨(some 0), .mv (.t 39), none, 0⟩] 0 none))))))))) .skip))) (.seq (.reg [
    ⟨(some 24), .mki 125 (.c (.p (.o (.int .i64 3)))), none, 0⟩,
    ⟨(some 6), .mv (.c (.p (.o (.int .u64 0)))), none, 0⟩,
    ⟨(some 7), .mv (.t 24), none, 0⟩] 0 none) .ret)))))) (.seq (.seq (.reg [
    ⟨(some 76), .mv (.t 2), none, 0⟩,
    ⟨(some 77), .bin .eql (.t 76) (.c (.p (.o (.int .i64 0)))), none, 0⟩] 0 none) (.cond (.t 77) (.reg [
    ⟨(some 2), .mv (.c (.p (.o (.int .i64 64)))), none, 0⟩] 0 none) (.seq (.reg [
    ⟨(some 78), .mv (.t 2), none, 0⟩,
    ⟨(some 79), .bin .lss (.t 78) (.c (.p (.o (.int .i64 0)))), none, 0⟩,
    ⟨(some 80), .mv (.t 79), none, 0⟩,
    ⟨(some 81), .mv (.t 2), (some (80, false)), 0⟩,
    ⟨(some 82), .bin .gtr (.t 81) (.c (.p (.o (.int .i64 64)))), (some (80, false)), 0⟩,
    ⟨(some 83), .pick (.t 80) (.c (.p (.o (.bool true)))) (.t 82), none, 0⟩] 0 none) (.cond (.t 83) (.seq (.reg [
    ⟨(some 84), .mki 125 (.c (.p (.o (.int .i64 4)))), none, 0⟩,
    ⟨(some 6), .mv (.c (.p (.o (.int .u64 0)))), none, 0⟩,
    ⟨(some 7), .mv (.t 84), none, 0⟩] 0 none) .ret) .skip)))) (.seq (.reg [
    ⟨(some 10), .mv (.c (.p (.o (.int .u64 0)))), none, 0⟩] 0 none) (.seq (.seq (.reg [
    ⟨(some 85), .mv (.t 1), none, 0⟩] 0 none) (.block 2 (.seq (.reg [
    ⟨(some 91), .bin .eql (.t 85) (.c (.p (.o (.int .i64 10)))), none, 0⟩,
    ⟨(some 90), .mv (.t 91), none, 0⟩] 0 none) (.cond (.t 90) (.reg [
    ⟨(some 10), .mv (.c (.p (.o (.int .u64 1844674407370955162)))), none, 0⟩] 0 none) (.seq (.reg [
    ⟨(some 93), .bin .eql (.t 85) (.c (.p (.o (.int .i64 16)))), none, 0⟩,
    ⟨(some 92), .mv (.t 93), none, 0⟩] 0 none) (.cond (.t 92) (.reg [
    ⟨(some 10), .mv (.c (.p (.o (.int .u64 1152921504606846976)))), none, 0⟩] 0 none) (.reg [
    ⟨(some 86), .mv (.t 1), none, 0⟩,
    ⟨(some 87), .cvi .u64 (.t 86), none, 0⟩,
    ⟨(some 88), .bin .quo (.c (.p (.o (.int .u64 18446744073709551615)))) (.t 87), none, 0⟩,
    ⟨(some 89), .bin .add (.t 88) (.c (.p (.o (.int .u64 1)))), none, 0⟩,
    ⟨(some 10), .mv (.t 89), none, 0⟩] 0 none))))))) (.seq (.reg [
    ⟨(some 94), .mv (.t 2), none, 0⟩,
    ⟨(some 95), .cvi .u64 (.t 94), none, 0⟩,
    ⟨(some 96), .bin .shl (.c (.p (.o (.int .u64 1)))) (.t 95), none, 0⟩,
    ⟨(some 97), .bin .sub (.t 96) (.c (.p (.o (.int .u64 1)))), none, 0⟩,
    ⟨(some 11), .mv (.t 97), none, 0⟩] 0 none) (.seq (.reg [
    ⟨(some 12), .mv (.c (.p (.o (.bool false)))), none, 0⟩] 0 none) (.seq (.reg [
    ⟨(some 13), .mv (.c (.p (.o (.int .u64 0)))), none, 0⟩] 0 none) (.seq (.seq (.reg [
    ⟨(some 98), .mv (.t 0), none, 0⟩,
    ⟨(some 99), .s2b (.t 98), none, 0⟩,
    ⟨(some 100), .len true (.t 99), none, 1⟩,
    ⟨(some 101), .mv (.c (.p (.o (.int .i64 0)))), none, 1⟩] 1 none) (.block 3 (.loop (.seq (.reg [
    ⟨(some 102), .bin .lss (.t 101) (.t 100), none, 0⟩] 0 none) (.seq (.cond (.t 102) .skip (.exit 3)) (.seq (.block 4 (.seq (.reg [
    ⟨(some 103), .iad 1 (.t 99) (.t 101), none, 0⟩,
    ⟨(some 104), .ld none (.t 103), none, 0⟩,
    ⟨(some 15), .mv (.t 104), none, 0⟩] 0 none) (.seq (.reg [
    ⟨(some 16), .mv (.c (.p (.o (.int .u8 0)))), none, 0⟩] 0 none) (.seq (.block 5 (.seq (.reg [
    ⟨(some 107), .mv (.t 15), none, 0⟩,
    ⟨(some 108), .bin .eql (.t 107) (.c (.p (.o (.int .u8 95)))), none, 0⟩,
    ⟨(some 109), .mv (.t 108), none, 0⟩,
    ⟨(some 110), .mv (.t 8), (some (109, true)), 0⟩,
    ⟨(some 111), .pick (.t 109) (.t 110) (.c (.p (.o (.bool false)))), none, 0⟩,
    ⟨(some 106), .mv (.t 111), none, 0⟩] 0 none) (.cond (.t 106) (.seq (.reg [
    ⟨(some 12), .mv (.c (.p (.o (.bool true)))), none, 0⟩] 0 none) (.exit 4)) (.seq (.reg [
    ⟨(some 113), .mv (.t 15), none, 0⟩,
    ⟨(some 114), .bin .leq (.c (.p (.o (.int .u8 48)))) (.t 113), none, 0⟩,
    ⟨(some 115), .mv (.t 114), none, 0⟩,
    ⟨(some 116), .mv (.t 15), (some (115, true)), 0⟩,
    ⟨(some 117), .bin .leq (.t 116) (.c (.p (.o (.int .u8 57)))), (some (115, true)), 0⟩,
    ⟨(some 118), .pick (.t 115) (.t 117) (.c (.p (.o (.bool false)))), none, 0⟩,
    ⟨(some 112), .mv (.t 118), none, 0⟩] 0 none) (.cond (.t 112) (.reg [
    ⟨(some 119), .mv (.t 15), none, 0⟩,
    ⟨(some 120), .bin .sub (.t 119) (.c (.p (.o (.int .u8 48)))), none, 0⟩,
    ⟨(some 16), .mv (.t 120), none, 0⟩] 0 none) (.seq (.reg [
    ⟨(some 122), .mv (.t 15), none, 0⟩,
    ⟨(some 123), .call 91 [(.t 122)] 0, none, 0⟩,
    ⟨(some 124), .bin .leq (.c (.p (.o (.int .u8 97)))) (.t 123), none, 0⟩,
    ⟨(some 125), .mv (.t 124), none, 0⟩,
    ⟨(some 126), .mv (.t 15), (some (125, true)), 0⟩,
    ⟨(some 127), .call 91 [(.t 126)] 0, (some (125, true)), 0⟩,
    ⟨(some 128), .bin .leq (.t 127) (.c (.p (.o (.int .u8 122)))), (some (125, true)), 0⟩,
    ⟨(some 129), .pick (.t 125) (.t 128) (.c (.p (.o (.bool false)))), none, 0⟩,
    ⟨(some 121), .mv (.t 129), none, 0⟩] 0 none) (.cond (.t 121) (.reg [
    ⟨(some 130), .mv (.t 15), none, 0⟩,
    ⟨(some 131), .call 91 [(.t 130)] 0, none, 0⟩,
    ⟨(some 132), .bin .sub (.t 131) (.c (.p (.o (.int .u8 97)))), none, 0⟩,
    ⟨(some 133), .bin .add (.t 132) (.c (.p (.o (.int .u8 10)))), none, 0⟩,
    ⟨(some 16), .mv (.t 133), none, 0⟩] 0 none) (.seq (.reg [
    ⟨(some 105), .mki 125 (.c (.p (.o (.int .i64 2)))), none, 0⟩,
    ⟨(some 6), .mv (.c (.p (.o (.int .u64 0)))), none, 0⟩,
    ⟨(some 7), .mv (.t 105), none, 0⟩] 0 none) .ret)))))))) (.seq (.seq (.reg [
    ⟨(some 134), .mv (.t 16), none, 0⟩,
    ⟨(some 135), .mv (.t 1), none, 0⟩,
    ⟨(some 136), .cvi .u8 (.t 135), none, 0⟩,
    ⟨(some 137), .bin .geq (.t 134) (.t 136), none, 0⟩] 0 none) (.cond (.t 137) (.seq (.reg [
    ⟨(some 138), .mki 125 (.c (.p (.o (.int .i64 2)))), none, 0⟩,
    ⟨(some 6), .mv (.c (.p (.o (.int .u64 0)))), none, 0⟩,
    ⟨(some 7), .mv (.t 138), none, 0⟩] 0 none) .ret) .skip)) (.seq (.seq (.reg [
    ⟨(some 139), .mv (.t 13), none, 0⟩,
    ⟨(some 140), .mv (.t 10), none, 0⟩,
    ⟨(some 141), .bin .geq (.t 139) (.t 140), none, 0⟩] 0 none) (.cond (.t 141) (.seq (.reg [
    ⟨(some 142), .mv (.t 11), none, 0⟩,
    ⟨(some 143), .mki 125 (.c (.p (.o (.int .i64 1)))), none, 0⟩,
    ⟨(some 6), .mv (.t 142), none, 0⟩,
    ⟨(some 7), .mv (.t 143), none, 0⟩] 0 none) .ret) .skip)) (.seq (.reg [
    ⟨(some 144), .mv (.t 13), none, 0⟩,
    ⟨(some 145), .mv (.t 1), none, 0⟩,
    ⟨(some 146), .cvi .u64 (.t 145), none, 0⟩,
    ⟨(some 147), .bin .mul (.t 144) (.t 146), none, 0⟩,
    ⟨(some 13), .mv (.t 147), none, 0⟩] 0 none) (.seq (.reg [
    ⟨(some 148), .mv (.t 13), none, 0⟩,
    ⟨(some 149), .mv (.t 16), none, 0⟩,
    ⟨(some 150), .cvi .u64 (.t 149), none, 0⟩,
    ⟨(some 151), .bin .add (.t 148) (.t 150), none, 0⟩,
    ⟨(some 17), .mv (.t 151), none, 0⟩] 0 none) (.seq (.seq (.reg [
    ⟨(some 152), .mv (.t 17), none, 0⟩,
    ⟨(some 153), .mv (.t 13), none, 0⟩,
    ⟨(some 154), .bin .lss (.t 152) (.t 153), none, 0⟩,
    ⟨(some 155), .mv (.t 154), none, 0⟩,
    ⟨(some 156), .mv (.t 17), (some (155, false)), 0⟩,
    ⟨(some 157), .mv (.t 11), (some (155, false)), 0⟩,
    ⟨(some 158), .bin .gtr (.t 156) (.t 157), (some (155, false)), 0⟩,
    ⟨(some 159), .pick (.t 155) (.c (.p (.o (.bool true)))) (.t 158), none, 0⟩] 0 none) (.cond (.t 159) (.seq (.reg [
    ⟨(some 160), .mv (.t 11), none, 0⟩,
    ⟨(some 161), .mki 125 (.c (.p (.o (.int .i64 1)))), none, 0⟩,
    ⟨(some 6), .mv (.t 160), none, 0⟩,
    ⟨(some 7), .mv (.t 161), none, 0⟩] 0 none) .ret) .skip)) (.reg [
    ⟨(some 162), .mv (.t 17), none, 0⟩,
    ⟨(some 13), .mv (.t 162), none, 0⟩] 0 none)))))))))) (.reg [
    ⟨(some 163), .bin .add (.t 101) (.c (.p (.o (.int .i64 1)))), none, 0⟩,
    ⟨(some 101), .mv (.t 163), none, 0⟩] 0 none))))))) (.seq (.seq (.reg [
    ⟨(some 164), .mv (.t 12), none, 0⟩,
    ⟨(some 165), .mv (.t 164), none, 0⟩,
    ⟨(some 166), .mv (.t 9), (some (165, true)), 0⟩,
    ⟨(some 167), .call 92 [(.t 166)] 0, (some (165, true)), 0⟩,
    ⟨(some 168), .un .not (.t 167), (some (165, true)), 0⟩,
    ⟨(some 169), .pick (.t 165) (.t 168) (.c (.p (.o (.bool false)))), none, 0⟩] 0 none) (.cond (.t 169) (.seq (.reg [
    ⟨(some 170), .mki 125 (.c (.p (.o (.int .i64 2)))), none, 0⟩,
    ⟨(some 6), .mv (.c (.p (.o (.int .u64 0)))), none, 0⟩,
    ⟨(some 7), .mv (.t 170), none, 0⟩] 0 none) .ret) .skip)) (.seq (.reg [
    ⟨(some 171), .mv (.t 13), none, 0⟩,
    ⟨(some 6), .mv (.t 171), none, 0⟩,
    ⟨(some 7), .mv (.c (.p (.o (.nili)))), none, 0⟩] 0 none) .ret)))))))))))))),
  [.tmp 6, .tmp 7], 172, [0, 1, 2, 6, 7, 8, 9, 10, 11, 12, 13, 15, 16, 17, 85, 99, 100, 101]⟩
theorem ok_istrconv_ParseUint : cFn Tryd.prog eqsT newsT vf_istrconv_ParseUint.keep Tryd.f75 = some vf_istrconv_ParseUint := by kernel_rfl
def vf_istrconv_lower : VFn := ⟨(.seq (.reg [
    ⟨(some 2), .mv (.c (.p (.o (.int .u8 0)))), none, 0⟩] 0 none) (.seq (.reg [
    ⟨(some 3), .mv (.t 0), none, 0⟩,
    ⟨(some 4), .bin .or (.t 3) (.c (.p (.o (.int .u8 32)))), none, 0⟩,
    ⟨(some 2), .mv (.t 4), none, 0⟩] 0 none) .ret)),
  [.tmp 2], 5, [0, 2]⟩
theorem ok_istrconv_lower : cFn Tryd.prog eqsT newsT vf_istrconv_lower.keep Tryd.f91 = some vf_istrconv_lower := by kernel_rfl
def lowr (c : Int) : Int := ((BitVec.ofInt IntKind.u8.bits c ||| BitVec.ofInt IntKind.u8.bits 32).toNat : Int)
/-- A digit of sixteen; sixteen and more: none. -/
def digU (c : Int) : Int := if 48 ≤ c ∧ c ≤ 57 then c - 48 else if 97 ≤ lowr c ∧ lowr c ≤ 122 then lowr c - 97 + 10 else 99
def pu16L (n : Int) : List UInt8 → Int × Int
  | [] => (n, 0)
  | c :: l => if digU c.toNat ≥ 16 then (0, 2) else if n * 16 + digU c.toNat > 281474976710655 then (281474976710655, 1) else pu16L (n * 16 + digU c.toNat) l
def pu16 (s : ByteArray) : Int × Int := if s.size = 0 then (0, 2) else pu16L 0 s.data.toList
def errU (k : Int) : SV := if k = 0 then .nili else .ifi 125 .i64 k
theorem max48 : IntKind.u64.wrap (IntKind.u64.wrap (1 * 2 ^ min (Int.toNat 48) IntKind.u64.bits) - 1) = 281474976710655 := by decide +kernel
theorem lowr_bd (c : Int) : 0 ≤ lowr c ∧ lowr c ≤ 255 := by
  have h : (BitVec.ofInt IntKind.u8.bits c ||| BitVec.ofInt IntKind.u8.bits 32).toNat < 256 := (BitVec.ofInt IntKind.u8.bits c ||| BitVec.ofInt IntKind.u8.bits 32).isLt
  unfold lowr; omega
theorem byte_at {s : ByteArray} {i : Nat} (h : i < s.size) : ∃ c, s.data.toList.drop i = c :: s.data.toList.drop (i + 1) ∧ bAt s (0 + (i : Int).toNat * 1) = c.toNat := by
  have hl : i < s.data.toList.length := by simpa using h
  refine ⟨s.data.toList[i], List.drop_eq_getElem_cons hl, ?_⟩
  have e : 0 + (i : Int).toNat * 1 = i := by omega
  rw [e]; unfold bAt; rw [List.getElem?_eq_getElem hl]; rfl
set_option maxHeartbeats 8000000 in
theorem pu16_det (s : ByteArray) (hs : s.size ≤ 1000000) : Det G Tryd.prog 75 [.o (.str s), .o (.int .i64 16), .o (.int .i64 48)] [] (.t [.o (.int .u64 (pu16 s).1), .o (errU (pu16 s).2)]) [] := by
  refine can_of_W known mix Tryd.func75 (by kernel_rfl) ok_istrconv_ParseUint (Nat.le_of_ble_eq_true rfl) ?_
  repeat' ((conv => whnf); first
    | ((with_reducible refine Look.mk ?_); refine ⟨_, rfl, ?_⟩)
    | ((with_reducible refine LookN.zeros ?_))
    | ((with_reducible refine LookN.bytes ?_ ?_); (simp; done))
    | ((with_reducible refine BytesW.bytes ?_))
    | ((with_reducible refine Look.byte ?_ ?_); omega)
    | ((with_reducible refine Look.setb ?_ ?_ ?_); exact bv8_bd _; omega)
    | ((with_reducible refine LookN.setb ?_ ?_ ?_); exact bv8_bd _; omega)
    | ((with_reducible refine LookN.mk ?_); refine ⟨_, rfl, ?_⟩)
    | ((with_reducible refine Need.mk ?_ ?_); first | ((with_reducible refine needB ?_); kernel_rfl) | with_reducible rfl | omega | (with_reducible refine ⟨rfl, ?_⟩; focus omega) | (simp only [ByteArray.size_append, size_lit, List.size_toArray, List.length_cons, List.length_nil]; omega) | exact rfl | trivial | exact Nat.le_of_ble_eq_true rfl | (exact ⟨rfl, by omega⟩) | (intro h; first | rfl | cases h) | (simp only [lenS_text, lenS_setN, lenS_zeros]; omega))
    | ((with_reducible refine BytesW.mk ?_); refine ⟨_, rfl, ?_⟩)
    | ((with_reducible refine WrT.same ?_ ?_); focus (repeat (first | exact trivial | ((conv => whnf); refine ⟨rfl, ?_⟩))))
    | (with_reducible refine WrT.all ?_)
    | ((with_reducible refine Look.byte ?_ ?_); (first | assumption | omega))
    | ((with_reducible refine Test.dt ?_ ?_); focus decide +kernel)
    | ((with_reducible refine Test.df ?_ ?_); focus decide +kernel)
    | ((with_reducible refine Test.ieT ?_ ?_); focus decide +kernel)
    | ((with_reducible refine Test.ieF ?_ ?_); focus decide +kernel)
    | ((with_reducible refine Test.neT ?_ ?_); focus decide +kernel)
    | ((with_reducible refine Test.neF ?_ ?_); focus decide +kernel)
    | ((with_reducible refine Test.b ?_ ?_); focus decide +kernel)
    | ((with_reducible refine Test.nb ?_ ?_); focus decide +kernel)
    | (with_reducible refine CallW.can (can_of_W known mix Tryd.func91 (by kernel_rfl) ok_istrconv_lower (Nat.le_of_ble_eq_true rfl) ?_) (fun _ _ h => h))
    | ((with_reducible refine Test.tmodEqT ?_ ?_ ?_); omega; focus first | omega | assumption)
    | ((with_reducible refine Test.tmodEqF ?_ ?_ ?_); omega; focus first | omega | assumption)
    | ((with_reducible refine Test.tmodNeT ?_ ?_ ?_); omega; focus first | omega | assumption)
    | ((with_reducible refine Test.tmodNeF ?_ ?_ ?_); omega; focus first | omega | assumption)
    | ((with_reducible refine Test.tmodEq ?_ (fun h => ?_) (fun h => ?_)); omega)
    | ((with_reducible refine Test.tmodNe ?_ (fun h => ?_) (fun h => ?_)); omega)
    | ((with_reducible refine Test.notT ?_ ?_); focus assumption)
    | ((with_reducible refine Test.notF ?_ ?_); focus assumption)
    | (with_reducible refine Test.notIe (fun h => ?_) (fun h => ?_))
    | (with_reducible refine Test.notD (fun h => ?_) (fun h => ?_))
    | ((with_reducible refine Test.empty (fun h => ?_) (fun h => ?_)))
    | (with_reducible refine Test.tt ?_)
    | (with_reducible refine Test.ff ?_)
    | ((with_reducible refine Test.dt ?_ ?_); omega)
    | ((with_reducible refine Test.df ?_ ?_); omega)
    | (with_reducible refine Test.d (fun h => ?_) (fun h => ?_))
    | ((with_reducible refine Test.ieT ?_ ?_); omega)
    | ((with_reducible refine Test.ieF ?_ ?_); omega)
    | ((with_reducible refine Test.neT ?_ ?_); omega)
    | ((with_reducible refine Test.neF ?_ ?_); omega)
    | (with_reducible refine Test.ie (fun h => ?_) (fun h => ?_))
    | (with_reducible refine Test.ne (fun h => ?_) (fun h => ?_))
    | ((with_reducible refine Test.b ?_ ?_); (focus first | assumption | (simp [negB]; done) | exact rfl))
    | ((with_reducible refine Test.nb ?_ ?_); (focus first | assumption | (simp [negB]; done) | exact rfl))
    | (with_reducible refine Test.notS (fun h => ?_) (fun h => ?_))
    | (with_reducible refine Test.mk (fun h => ?_) (fun h => ?_))
    | ((with_reducible refine Arith.andu8_15 ?_ ?_); omega)
    | ((with_reducible refine Arith.tdiv ?_ ?_); omega)
    | (with_reducible refine Arith.bv8 ?_)
    | (with_reducible refine Arith.bv16 ?_)
    | (with_reducible refine Arith.bv32 ?_)
    | (with_reducible refine Arith.bv64 ?_)
    | ((with_reducible refine Arith.i64 ?_ ?_); omega)
    | ((with_reducible refine Arith.u64 ?_ ?_); omega)
    | ((with_reducible refine Arith.u32 ?_ ?_); omega)
    | ((with_reducible refine Arith.u16 ?_ ?_); omega)
    | ((with_reducible refine Arith.u8 ?_ ?_); omega)
    | ((with_reducible refine Arith.i32 ?_ ?_); omega)
    | ((with_reducible refine Arith.i64 ?_ ?_); simp (discharger := omega) only [Int.tdiv_eq_ediv_of_nonneg, shr_u8_4, shl_u8_4, shr_u16_4, shl_u16_4, shr_u16_8, shl_u16_8, shr_u32_4, shl_u32_4, shr_u32_8, shl_u32_8, shr_u32_16, shl_u32_16, shr_u32_24, shl_u32_24, shr_u64_4, shl_u64_4, shr_u64_8, shl_u64_8, shr_u64_16, shl_u64_16, shr_u64_24, shl_u64_24, shr_u64_40, shl_u64_40, shr_i64_4, shl_i64_4, shr_i64_8, shl_i64_8, shr_i64_16, shl_i64_16, shr_i64_24, shl_i64_24, shr_i64_40, shl_i64_40]; omega)
    | ((with_reducible refine Arith.u64 ?_ ?_); simp (discharger := omega) only [Int.tdiv_eq_ediv_of_nonneg, shr_u8_4, shl_u8_4, shr_u16_4, shl_u16_4, shr_u16_8, shl_u16_8, shr_u32_4, shl_u32_4, shr_u32_8, shl_u32_8, shr_u32_16, shl_u32_16, shr_u32_24, shl_u32_24, shr_u64_4, shl_u64_4, shr_u64_8, shl_u64_8, shr_u64_16, shl_u64_16, shr_u64_24, shl_u64_24, shr_u64_40, shl_u64_40, shr_i64_4, shl_i64_4, shr_i64_8, shl_i64_8, shr_i64_16, shl_i64_16, shr_i64_24, shl_i64_24, shr_i64_40, shl_i64_40]; omega)
    | ((with_reducible refine Arith.u32 ?_ ?_); simp (discharger := omega) only [Int.tdiv_eq_ediv_of_nonneg, shr_u8_4, shl_u8_4, shr_u16_4, shl_u16_4, shr_u16_8, shl_u16_8, shr_u32_4, shl_u32_4, shr_u32_8, shl_u32_8, shr_u32_16, shl_u32_16, shr_u32_24, shl_u32_24, shr_u64_4, shl_u64_4, shr_u64_8, shl_u64_8, shr_u64_16, shl_u64_16, shr_u64_24, shl_u64_24, shr_u64_40, shl_u64_40, shr_i64_4, shl_i64_4, shr_i64_8, shl_i64_8, shr_i64_16, shl_i64_16, shr_i64_24, shl_i64_24, shr_i64_40, shl_i64_40]; omega)
    | ((with_reducible refine Arith.u16 ?_ ?_); simp (discharger := omega) only [Int.tdiv_eq_ediv_of_nonneg, shr_u8_4, shl_u8_4, shr_u16_4, shl_u16_4, shr_u16_8, shl_u16_8, shr_u32_4, shl_u32_4, shr_u32_8, shl_u32_8, shr_u32_16, shl_u32_16, shr_u32_24, shl_u32_24, shr_u64_4, shl_u64_4, shr_u64_8, shl_u64_8, shr_u64_16, shl_u64_16, shr_u64_24, shl_u64_24, shr_u64_40, shl_u64_40, shr_i64_4, shl_i64_4, shr_i64_8, shl_i64_8, shr_i64_16, shl_i64_16, shr_i64_24, shl_i64_24, shr_i64_40, shl_i64_40]; omega)
    | ((with_reducible refine Arith.u8 ?_ ?_); simp (discharger := omega) only [Int.tdiv_eq_ediv_of_nonneg, shr_u8_4, shl_u8_4, shr_u16_4, shl_u16_4, shr_u16_8, shl_u16_8, shr_u32_4, shl_u32_4, shr_u32_8, shl_u32_8, shr_u32_16, shl_u32_16, shr_u32_24, shl_u32_24, shr_u64_4, shl_u64_4, shr_u64_8, shl_u64_8, shr_u64_16, shl_u64_16, shr_u64_24, shl_u64_24, shr_u64_40, shl_u64_40, shr_i64_4, shl_i64_4, shr_i64_8, shl_i64_8, shr_i64_16, shl_i64_16, shr_i64_24, shl_i64_24, shr_i64_40, shl_i64_40]; omega)
    | (with_reducible refine Arith.mk ?_)
    | (with_reducible refine Ends.mk ?_))
  · have : pu16 s = (0, 2) := if_pos (by assumption)
    rw [this]; exact ⟨rfl, rfl⟩
  refine LoopW.rule (fun f sl M => ∃ (i : Nat) (n x y : Int), (sl = [(0, vS s), (1, vI .i64 16), (2, vI .i64 48), (6, vI .u64 0), (7, vO .nili), (8, vB (16 == 0)), (9, vS s), (10, vI .u64 1152921504606846976), (11, vI .u64 (IntKind.u64.wrap (IntKind.u64.wrap (1 * 2 ^ min (Int.toNat 48) IntKind.u64.bits) - 1))), (12, vB false), (13, vI .u64 n), (85, vI .i64 16), (99, vO (.slc 0 0 s.size (.upto 1))), (100, vI .i64 s.size), (101, vI .i64 i)] ∨ sl = [(0, vS s), (1, vI .i64 16), (2, vI .i64 48), (6, vI .u64 0), (7, vO .nili), (8, vB (16 == 0)), (9, vS s), (10, vI .u64 1152921504606846976), (11, vI .u64 (IntKind.u64.wrap (IntKind.u64.wrap (1 * 2 ^ min (Int.toNat 48) IntKind.u64.bits) - 1))), (12, vB false), (13, vI .u64 n), (15, vO (.int .u8 x)), (16, vI .u8 y), (17, vI .u64 n), (85, vI .i64 16), (99, vO (.slc 0 0 s.size (.upto 1))), (100, vI .i64 s.size), (101, vI .i64 i)]) ∧ M = [.row true true (bytesSV s.data.toList)] ∧ (0 ≤ n ∧ n ≤ 281474976710655) ∧ i ≤ s.size ∧ pu16 s = pu16L n (s.data.toList.drop i) ∧ s.size - i < f) ?_ (s.size + 1) ⟨0, 0, 0, 0, .inl rfl, rfl, by omega, by omega, if_neg (by omega), by omega⟩
  rintro f sl M ⟨i, n, x, y, hsl, rfl, hb, h1, hp, h3⟩ X hX
  cases f with
  | zero => omega
  | succ f =>
    by_cases hi : i < s.size
    · obtain ⟨c, hd, hc⟩ := byte_at hi
      have hcb := c.toNat_lt
      have hl := lowr_bd c.toNat
      have hle : ((BitVec.ofInt IntKind.u8.bits (bAt s (0 + (i : Int).toNat * 1)) ||| BitVec.ofInt IntKind.u8.bits 32).toNat : Int) = lowr c.toNat := by rw [hc]; rfl
      have hm := max48
      rw [hd, pu16L] at hp
      rcases hsl with rfl | rfl
      all_goals
        repeat' ((conv => whnf); first
    | ((with_reducible refine Look.mk ?_); refine ⟨_, rfl, ?_⟩)
    | ((with_reducible refine LookN.zeros ?_))
    | ((with_reducible refine LookN.bytes ?_ ?_); (simp; done))
    | ((with_reducible refine BytesW.bytes ?_))
    | ((with_reducible refine Look.byte ?_ ?_); omega)
    | ((with_reducible refine Look.setb ?_ ?_ ?_); exact bv8_bd _; omega)
    | ((with_reducible refine LookN.setb ?_ ?_ ?_); exact bv8_bd _; omega)
    | ((with_reducible refine LookN.mk ?_); refine ⟨_, rfl, ?_⟩)
    | ((with_reducible refine Need.mk ?_ ?_); first | ((with_reducible refine needB ?_); kernel_rfl) | with_reducible rfl | omega | (with_reducible refine ⟨rfl, ?_⟩; focus omega) | (simp only [ByteArray.size_append, size_lit, List.size_toArray, List.length_cons, List.length_nil]; omega) | exact rfl | trivial | exact Nat.le_of_ble_eq_true rfl | (exact ⟨rfl, by omega⟩) | (intro h; first | rfl | cases h) | (simp only [lenS_text, lenS_setN, lenS_zeros]; omega))
    | ((with_reducible refine BytesW.mk ?_); refine ⟨_, rfl, ?_⟩)
    | ((with_reducible refine WrT.same ?_ ?_); focus (repeat (first | exact trivial | ((conv => whnf); refine ⟨rfl, ?_⟩))))
    | (with_reducible refine WrT.all ?_)
    | ((with_reducible refine Look.byte ?_ ?_); (first | assumption | omega))
    | ((with_reducible refine Test.dt ?_ ?_); focus decide +kernel)
    | ((with_reducible refine Test.df ?_ ?_); focus decide +kernel)
    | ((with_reducible refine Test.ieT ?_ ?_); focus decide +kernel)
    | ((with_reducible refine Test.ieF ?_ ?_); focus decide +kernel)
    | ((with_reducible refine Test.neT ?_ ?_); focus decide +kernel)
    | ((with_reducible refine Test.neF ?_ ?_); focus decide +kernel)
    | ((with_reducible refine Test.b ?_ ?_); focus decide +kernel)
    | ((with_reducible refine Test.nb ?_ ?_); focus decide +kernel)
    | (with_reducible refine CallW.can (can_of_W known mix Tryd.func91 (by kernel_rfl) ok_istrconv_lower (Nat.le_of_ble_eq_true rfl) ?_) (fun _ _ h => h))
    | ((with_reducible refine Test.tmodEqT ?_ ?_ ?_); omega; focus first | omega | assumption)
    | ((with_reducible refine Test.tmodEqF ?_ ?_ ?_); omega; focus first | omega | assumption)
    | ((with_reducible refine Test.tmodNeT ?_ ?_ ?_); omega; focus first | omega | assumption)
    | ((with_reducible refine Test.tmodNeF ?_ ?_ ?_); omega; focus first | omega | assumption)
    | ((with_reducible refine Test.tmodEq ?_ (fun h => ?_) (fun h => ?_)); omega)
    | ((with_reducible refine Test.tmodNe ?_ (fun h => ?_) (fun h => ?_)); omega)
    | ((with_reducible refine Test.notT ?_ ?_); focus assumption)
    | ((with_reducible refine Test.notF ?_ ?_); focus assumption)
    | (with_reducible refine Test.notIe (fun h => ?_) (fun h => ?_))
    | (with_reducible refine Test.notD (fun h => ?_) (fun h => ?_))
    | ((with_reducible refine Test.empty (fun h => ?_) (fun h => ?_)))
    | (with_reducible refine Test.tt ?_)
    | (with_reducible refine Test.ff ?_)
    | ((with_reducible refine Test.dt ?_ ?_); omega)
    | ((with_reducible refine Test.df ?_ ?_); omega)
    | (with_reducible refine Test.d (fun h => ?_) (fun h => ?_))
    | ((with_reducible refine Test.ieT ?_ ?_); omega)
    | ((with_reducible refine Test.ieF ?_ ?_); omega)
    | ((with_reducible refine Test.neT ?_ ?_); omega)
    | ((with_reducible refine Test.neF ?_ ?_); omega)
    | (with_reducible refine Test.ie (fun h => ?_) (fun h => ?_))
    | (with_reducible refine Test.ne (fun h => ?_) (fun h => ?_))
    | ((with_reducible refine Test.b ?_ ?_); (focus first | assumption | (simp [negB]; done) | exact rfl))
    | ((with_reducible refine Test.nb ?_ ?_); (focus first | assumption | (simp [negB]; done) | exact rfl))
    | (with_reducible refine Test.notS (fun h => ?_) (fun h => ?_))
    | (with_reducible refine Test.mk (fun h => ?_) (fun h => ?_))
    | ((with_reducible refine Arith.andu8_15 ?_ ?_); omega)
    | ((with_reducible refine Arith.tdiv ?_ ?_); omega)
    | (with_reducible refine Arith.bv8 ?_)
    | (with_reducible refine Arith.bv16 ?_)
    | (with_reducible refine Arith.bv32 ?_)
    | (with_reducible refine Arith.bv64 ?_)
    | ((with_reducible refine Arith.i64 ?_ ?_); omega)
    | ((with_reducible refine Arith.u64 ?_ ?_); omega)
    | ((with_reducible refine Arith.u32 ?_ ?_); omega)
    | ((with_reducible refine Arith.u16 ?_ ?_); omega)
    | ((with_reducible refine Arith.u8 ?_ ?_); omega)
    | ((with_reducible refine Arith.i32 ?_ ?_); omega)
    | ((with_reducible refine Arith.i64 ?_ ?_); simp (discharger := omega) only [Int.tdiv_eq_ediv_of_nonneg, shr_u8_4, shl_u8_4, shr_u16_4, shl_u16_4, shr_u16_8, shl_u16_8, shr_u32_4, shl_u32_4, shr_u32_8, shl_u32_8, shr_u32_16, shl_u32_16, shr_u32_24, shl_u32_24, shr_u64_4, shl_u64_4, shr_u64_8, shl_u64_8, shr_u64_16, shl_u64_16, shr_u64_24, shl_u64_24, shr_u64_40, shl_u64_40, shr_i64_4, shl_i64_4, shr_i64_8, shl_i64_8, shr_i64_16, shl_i64_16, shr_i64_24, shl_i64_24, shr_i64_40, shl_i64_40]; omega)
    | ((with_reducible refine Arith.u64 ?_ ?_); simp (discharger := omega) only [Int.tdiv_eq_ediv_of_nonneg, shr_u8_4, shl_u8_4, shr_u16_4, shl_u16_4, shr_u16_8, shl_u16_8, shr_u32_4, shl_u32_4, shr_u32_8, shl_u32_8, shr_u32_16, shl_u32_16, shr_u32_24, shl_u32_24, shr_u64_4, shl_u64_4, shr_u64_8, shl_u64_8, shr_u64_16, shl_u64_16, shr_u64_24, shl_u64_24, shr_u64_40, shl_u64_40, shr_i64_4, shl_i64_4, shr_i64_8, shl_i64_8, shr_i64_16, shl_i64_16, shr_i64_24, shl_i64_24, shr_i64_40, shl_i64_40]; omega)
    | ((with_reducible refine Arith.u32 ?_ ?_); simp (discharger := omega) only [Int.tdiv_eq_ediv_of_nonneg, shr_u8_4, shl_u8_4, shr_u16_4, shl_u16_4, shr_u16_8, shl_u16_8, shr_u32_4, shl_u32_4, shr_u32_8, shl_u32_8, shr_u32_16, shl_u32_16, shr_u32_24, shl_u32_24, shr_u64_4, shl_u64_4, shr_u64_8, shl_u64_8, shr_u64_16, shl_u64_16, shr_u64_24, shl_u64_24, shr_u64_40, shl_u64_40, shr_i64_4, shl_i64_4, shr_i64_8, shl_i64_8, shr_i64_16, shl_i64_16, shr_i64_24, shl_i64_24, shr_i64_40, shl_i64_40]; omega)
    | ((with_reducible refine Arith.u16 ?_ ?_); simp (discharger := omega) only [Int.tdiv_eq_ediv_of_nonneg, shr_u8_4, shl_u8_4, shr_u16_4, shl_u16_4, shr_u16_8, shl_u16_8, shr_u32_4, shl_u32_4, shr_u32_8, shl_u32_8, shr_u32_16, shl_u32_16, shr_u32_24, shl_u32_24, shr_u64_4, shl_u64_4, shr_u64_8, shl_u64_8, shr_u64_16, shl_u64_16, shr_u64_24, shl_u64_24, shr_u64_40, shl_u64_40, shr_i64_4, shl_i64_4, shr_i64_8, shl_i64_8, shr_i64_16, shl_i64_16, shr_i64_24, shl_i64_24, shr_i64_40, shl_i64_40]; omega)
    | ((with_reducible refine Arith.u8 ?_ ?_); simp (discharger := omega) only [Int.tdiv_eq_ediv_of_nonneg, shr_u8_4, shl_u8_4, shr_u16_4, shl_u16_4, shr_u16_8, shl_u16_8, shr_u32_4, shl_u32_4, shr_u32_8, shl_u32_8, shr_u32_16, shl_u32_16, shr_u32_24, shl_u32_24, shr_u64_4, shl_u64_4, shr_u64_8, shl_u64_8, shr_u64_16, shl_u64_16, shr_u64_24, shl_u64_24, shr_u64_40, shl_u64_40, shr_i64_4, shl_i64_4, shr_i64_8, shl_i64_8, shr_i64_16, shl_i64_16, shr_i64_24, shl_i64_24, shr_i64_40, shl_i64_40]; omega)
    | (with_reducible refine Arith.mk ?_)
    | (with_reducible refine Ends.mk ?_))
        all_goals first
          | (refine hX f (Nat.lt_succ_self f) _ _ ⟨i + 1, _, _, _, .inr rfl, rfl, by omega, by omega, ?_, by omega⟩
             first
               | (have ed : digU c.toNat = (c.toNat : Int) - 48 := by
                    unfold digU; exact if_pos ⟨by omega, by omega⟩
                  rw [hp, ed, if_neg (by omega), if_neg (by omega), ← hc]; done)
               | (have ed : digU c.toNat = lowr c.toNat - 97 + 10 := by
                    unfold digU; rw [if_neg (by omega)]; exact if_pos ⟨by omega, by omega⟩
                  rw [hp, ed, if_neg (by omega), if_neg (by omega), ← hle]; done)
               | done)
          | (clear hX
             first
               | (have ed : digU c.toNat = (c.toNat : Int) - 48 := by
                    unfold digU; exact if_pos ⟨by omega, by omega⟩
                  rw [hp, ed]
                  first
                    | (rw [if_pos (by omega)]; exact ⟨rfl, rfl⟩)
                    | (rw [if_neg (by omega), if_pos (by omega)]; exact ⟨rfl, rfl⟩))
               | (have ed : digU c.toNat = lowr c.toNat - 97 + 10 := by
                    unfold digU; rw [if_neg (by omega)]; exact if_pos ⟨by omega, by omega⟩
                  rw [hp, ed]
                  first
                    | (rw [if_pos (by omega)]; exact ⟨rfl, rfl⟩)
                    | (rw [if_neg (by omega), if_pos (by omega)]; exact ⟨rfl, rfl⟩))
               | (have ed : digU c.toNat = 99 := by
                    unfold digU; rw [if_neg (by omega)]; exact if_neg (by omega)
                  rw [hp, ed, if_pos (by omega)]; exact ⟨rfl, rfl⟩)
               | done)
    · clear hX
      have hie : i = s.size := by omega
      have hdr : s.data.toList.drop i = [] := List.drop_eq_nil_of_le (by simp; omega)
      rw [hdr, pu16L] at hp
      rcases hsl with rfl | rfl
      all_goals
        repeat' ((conv => whnf); first
    | ((with_reducible refine Look.mk ?_); refine ⟨_, rfl, ?_⟩)
    | ((with_reducible refine LookN.zeros ?_))
    | ((with_reducible refine LookN.bytes ?_ ?_); (simp; done))
    | ((with_reducible refine BytesW.bytes ?_))
    | ((with_reducible refine Look.byte ?_ ?_); omega)
    | ((with_reducible refine Look.setb ?_ ?_ ?_); exact bv8_bd _; omega)
    | ((with_reducible refine LookN.setb ?_ ?_ ?_); exact bv8_bd _; omega)
    | ((with_reducible refine LookN.mk ?_); refine ⟨_, rfl, ?_⟩)
    | ((with_reducible refine Need.mk ?_ ?_); first | ((with_reducible refine needB ?_); kernel_rfl) | with_reducible rfl | omega | (with_reducible refine ⟨rfl, ?_⟩; focus omega) | (simp only [ByteArray.size_append, size_lit, List.size_toArray, List.length_cons, List.length_nil]; omega) | exact rfl | trivial | exact Nat.le_of_ble_eq_true rfl | (exact ⟨rfl, by omega⟩) | (intro h; first | rfl | cases h) | (simp only [lenS_text, lenS_setN, lenS_zeros]; omega))
    | ((with_reducible refine BytesW.mk ?_); refine ⟨_, rfl, ?_⟩)
    | ((with_reducible refine WrT.same ?_ ?_); focus (repeat (first | exact trivial | ((conv => whnf); refine ⟨rfl, ?_⟩))))
    | (with_reducible refine WrT.all ?_)
    | ((with_reducible refine Look.byte ?_ ?_); (first | assumption | omega))
    | ((with_reducible refine Test.dt ?_ ?_); focus decide +kernel)
    | ((with_reducible refine Test.df ?_ ?_); focus decide +kernel)
    | ((with_reducible refine Test.ieT ?_ ?_); focus decide +kernel)
    | ((with_reducible refine Test.ieF ?_ ?_); focus decide +kernel)
    | ((with_reducible refine Test.neT ?_ ?_); focus decide +kernel)
    | ((with_reducible refine Test.neF ?_ ?_); focus decide +kernel)
    | ((with_reducible refine Test.b ?_ ?_); focus decide +kernel)
    | ((with_reducible refine Test.nb ?_ ?_); focus decide +kernel)
    | (with_reducible refine CallW.can (can_of_W known mix Tryd.func91 (by kernel_rfl) ok_istrconv_lower (Nat.le_of_ble_eq_true rfl) ?_) (fun _ _ h => h))
    | ((with_reducible refine Test.tmodEqT ?_ ?_ ?_); omega; focus first | omega | assumption)
    | ((with_reducible refine Test.tmodEqF ?_ ?_ ?_); omega; focus first | omega | assumption)
    | ((with_reducible refine Test.tmodNeT ?_ ?_ ?_); omega; focus first | omega | assumption)
    | ((with_reducible refine Test.tmodNeF ?_ ?_ ?_); omega; focus first | omega | assumption)
    | ((with_reducible refine Test.tmodEq ?_ (fun h => ?_) (fun h => ?_)); omega)
    | ((with_reducible refine Test.tmodNe ?_ (fun h => ?_) (fun h => ?_)); omega)
    | ((with_reducible refine Test.notT ?_ ?_); focus assumption)
    | ((with_reducible refine Test.notF ?_ ?_); focus assumption)
    | (with_reducible refine Test.notIe (fun h => ?_) (fun h => ?_))
    | (with_reducible refine Test.notD (fun h => ?_) (fun h => ?_))
    | ((with_reducible refine Test.empty (fun h => ?_) (fun h => ?_)))
    | (with_reducible refine Test.tt ?_)
    | (with_reducible refine Test.ff ?_)
    | ((with_reducible refine Test.dt ?_ ?_); omega)
    | ((with_reducible refine Test.df ?_ ?_); omega)
    | (with_reducible refine Test.d (fun h => ?_) (fun h => ?_))
    | ((with_reducible refine Test.ieT ?_ ?_); omega)
    | ((with_reducible refine Test.ieF ?_ ?_); omega)
    | ((with_reducible refine Test.neT ?_ ?_); omega)
    | ((with_reducible refine Test.neF ?_ ?_); omega)
    | (with_reducible refine Test.ie (fun h => ?_) (fun h => ?_))
    | (with_reducible refine Test.ne (fun h => ?_) (fun h => ?_))
    | ((with_reducible refine Test.b ?_ ?_); (focus first | assumption | (simp [negB]; done) | exact rfl))
    | ((with_reducible refine Test.nb ?_ ?_); (focus first | assumption | (simp [negB]; done) | exact rfl))
    | (with_reducible refine Test.notS (fun h => ?_) (fun h => ?_))
    | (with_reducible refine Test.mk (fun h => ?_) (fun h => ?_))
    | ((with_reducible refine Arith.andu8_15 ?_ ?_); omega)
    | ((with_reducible refine Arith.tdiv ?_ ?_); omega)
    | (with_reducible refine Arith.bv8 ?_)
    | (with_reducible refine Arith.bv16 ?_)
    | (with_reducible refine Arith.bv32 ?_)
    | (with_reducible refine Arith.bv64 ?_)
    | ((with_reducible refine Arith.i64 ?_ ?_); omega)
    | ((with_reducible refine Arith.u64 ?_ ?_); omega)
    | ((with_reducible refine Arith.u32 ?_ ?_); omega)
    | ((with_reducible refine Arith.u16 ?_ ?_); omega)
    | ((with_reducible refine Arith.u8 ?_ ?_); omega)
    | ((with_reducible refine Arith.i32 ?_ ?_); omega)
    | ((with_reducible refine Arith.i64 ?_ ?_); simp (discharger := omega) only [Int.tdiv_eq_ediv_of_nonneg, shr_u8_4, shl_u8_4, shr_u16_4, shl_u16_4, shr_u16_8, shl_u16_8, shr_u32_4, shl_u32_4, shr_u32_8, shl_u32_8, shr_u32_16, shl_u32_16, shr_u32_24, shl_u32_24, shr_u64_4, shl_u64_4, shr_u64_8, shl_u64_8, shr_u64_16, shl_u64_16, shr_u64_24, shl_u64_24, shr_u64_40, shl_u64_40, shr_i64_4, shl_i64_4, shr_i64_8, shl_i64_8, shr_i64_16, shl_i64_16, shr_i64_24, shl_i64_24, shr_i64_40, shl_i64_40]; omega)
    | ((with_reducible refine Arith.u64 ?_ ?_); simp (discharger := omega) only [Int.tdiv_eq_ediv_of_nonneg, shr_u8_4, shl_u8_4, shr_u16_4, shl_u16_4, shr_u16_8, shl_u16_8, shr_u32_4, shl_u32_4, shr_u32_8, shl_u32_8, shr_u32_16, shl_u32_16, shr_u32_24, shl_u32_24, shr_u64_4, shl_u64_4, shr_u64_8, shl_u64_8, shr_u64_16, shl_u64_16, shr_u64_24, shl_u64_24, shr_u64_40, shl_u64_40, shr_i64_4, shl_i64_4, shr_i64_8, shl_i64_8, shr_i64_16, shl_i64_16, shr_i64_24, shl_i64_24, shr_i64_40, shl_i64_40]; omega)
    | ((with_reducible refine Arith.u32 ?_ ?_); simp (discharger := omega) only [Int.tdiv_eq_ediv_of_nonneg, shr_u8_4, shl_u8_4, shr_u16_4, shl_u16_4, shr_u16_8, shl_u16_8, shr_u32_4, shl_u32_4, shr_u32_8, shl_u32_8, shr_u32_16, shl_u32_16, shr_u32_24, shl_u32_24, shr_u64_4, shl_u64_4, shr_u64_8, shl_u64_8, shr_u64_16, shl_u64_16, shr_u64_24, shl_u64_24, shr_u64_40, shl_u64_40, shr_i64_4, shl_i64_4, shr_i64_8, shl_i64_8, shr_i64_16, shl_i64_16, shr_i64_24, shl_i64_24, shr_i64_40, shl_i64_40]; omega)
    | ((with_reducible refine Arith.u16 ?_ ?_); simp (discharger := omega) only [Int.tdiv_eq_ediv_of_nonneg, shr_u8_4, shl_u8_4, shr_u16_4, shl_u16_4, shr_u16_8, shl_u16_8, shr_u32_4, shl_u32_4, shr_u32_8, shl_u32_8, shr_u32_16, shl_u32_16, shr_u32_24, shl_u32_24, shr_u64_4, shl_u64_4, shr_u64_8, shl_u64_8, shr_u64_16, shl_u64_16, shr_u64_24, shl_u64_24, shr_u64_40, shl_u64_40, shr_i64_4, shl_i64_4, shr_i64_8, shl_i64_8, shr_i64_16, shl_i64_16, shr_i64_24, shl_i64_24, shr_i64_40, shl_i64_40]; omega)
    | ((with_reducible refine Arith.u8 ?_ ?_); simp (discharger := omega) only [Int.tdiv_eq_ediv_of_nonneg, shr_u8_4, shl_u8_4, shr_u16_4, shl_u16_4, shr_u16_8, shl_u16_8, shr_u32_4, shl_u32_4, shr_u32_8, shl_u32_8, shr_u32_16, shl_u32_16, shr_u32_24, shl_u32_24, shr_u64_4, shl_u64_4, shr_u64_8, shl_u64_8, shr_u64_16, shl_u64_16, shr_u64_24, shl_u64_24, shr_u64_40, shl_u64_40, shr_i64_4, shl_i64_4, shr_i64_8, shl_i64_8, shr_i64_16, shl_i64_16, shr_i64_24, shl_i64_24, shr_i64_40, shl_i64_40]; omega)
    | (with_reducible refine Arith.mk ?_)
    | (with_reducible refine Ends.mk ?_))
        all_goals first
          | (rw [hp]; exact ⟨rfl, rfl⟩)
         
end G4
end Go.Proofs.YtnikpanebkknfaaDoor.VM
