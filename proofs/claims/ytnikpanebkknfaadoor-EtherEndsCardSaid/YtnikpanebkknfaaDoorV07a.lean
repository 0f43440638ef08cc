/- law 07 by the evaluator: numbers in sixteens. -/
import Derived.Test.YtnikpanebkknfaaDoorB4
namespace Go.Proofs.YtnikpanebkknfaaDoor.VM
namespace G4
open Go.RowKit
set_option linter.unusedVariables false
set_option linter.unusedSimpArgs false
set_option maxRecDepth 100000
variable {G : Ground}
def vf_strconv_FormatUint : VFn := ⟨(.seq (.reg [
    ⟨(some 4), .mv (.c (.p (.o (.str ⟨#[]⟩)))), none, 0⟩] 0 none) (.seq (.reg [
    ⟨(some 5), .mv (.t 0), none, 0⟩,
    ⟨(some 6), .mv (.t 1), none, 0⟩,
    ⟨(some 7), .call 81 [(.t 5), (.t 6)] 0, none, 0⟩,
    ⟨(some 4), .mv (.t 7), none, 0⟩] 0 none) .ret)),
  [.tmp 4], 8, [0, 1, 4]⟩
theorem ok_strconv_FormatUint : cFn Tryd.prog eqsT newsT vf_strconv_FormatUint.keep Tryd.f65 = some vf_strconv_FormatUint := by kernel_rfl
def vf_istrconv_FormatUint : VFn := ⟨(.seq (.reg [
    ⟨(some 4), .mv (.c (.p (.o (.str ⟨#[]⟩)))), none, 0⟩] 0 none) (.seq (.seq (.reg [
    ⟨(some 9), .mv (.t 1), none, 0⟩,
    ⟨(some 10), .bin .eql (.t 9) (.c (.p (.o (.int .i64 10)))), none, 0⟩] 0 none) (.cond (.t 10) (.seq (.seq (.reg [
    ⟨(some 11), .mv (.t 0), none, 0⟩,
    ⟨(some 12), .bin .lss (.t 11) (.c (.p (.o (.int .u64 100)))), none, 0⟩] 0 none) (.cond (.t 12) (.seq (.reg [
    ⟨(some 13), .mv (.t 0), none, 0⟩,
    ⟨(some 14), .cvi .i64 (.t 13), none, 0⟩,
    ⟨(some 15), .call 100 [(.t 14)] 0, none, 0⟩,
    ⟨(some 4), .mv (.t 15), none, 0⟩] 0 none) .ret) .skip)) (.seq (.reg [
    ⟨(some 5), .new [.int .u8 0, .int .u8 0, .int .u8 0, .int .u8 0, .int .u8 0, .int .u8 0, .int .u8 0, .int .u8 0, .int .u8 0, .int .u8 0, .int .u8 0, .int .u8 0, .int .u8 0, .int .u8 0, .int .u8 0, .int .u8 0, .int .u8 0, .int .u8 0, .int .u8 0, .int .u8 0, .int .u8 0, .int .u8 0, .int .u8 0, .int .u8 0], none, 0⟩] 1 none) (.seq (.reg [
    ⟨(some 16), .mv (.t 0), none, 0⟩,
    ⟨(some 17), .call 101 [(.t 16)] 0, none, 0⟩,
    ⟨(some 6), .mv (.t 17), none, 0⟩] 0 none) (.seq (.reg [
    ⟨(some 18), .mv (.t 6), none, 0⟩,
    ⟨(some 19), .sla 24 1 (.t 5) none (some (.t 18)), none, 0⟩,
    ⟨(some 20), .mv (.t 0), none, 0⟩,
    ⟨(some 21), .call 102 [(.t 19), (.t 20)] 0, none, 0⟩] 0 none) (.seq (.reg [
    ⟨(some 22), .mv (.t 6), none, 0⟩,
    ⟨(some 23), .sla 24 1 (.t 5) none (some (.t 22)), none, 0⟩,
    ⟨(some 24), .b2s (.t 23), none, 0⟩,
    ⟨(some 4), .mv (.t 24), none, 0⟩] 0 none) .ret))))) .skip)) (.seq (.reg [
    ⟨(some 26), .mv (.t 0), none, 0⟩,
    ⟨(some 27), .mv (.t 1), none, 0⟩,
    ⟨(some 28), .call 103 [(.c (.p (.o (.nils)))), (.t 26), (.t 27), (.c (.p (.o (.bool false)))), (.c (.p (.o (.bool false))))] 0, none, 0⟩,
    ⟨(some 25), .mv (.t 28), none, 0⟩,
    ⟨(some 29), .ext 0 (.t 25), none, 0⟩,
    ⟨(some 30), .ext 1 (.t 25), none, 0⟩,
    ⟨(some 7), .mv (.t 29), none, 0⟩,
    ⟨(some 8), .mv (.t 30), none, 0⟩] 0 none) (.seq (.reg [
    ⟨(some 31), .mv (.t 8), none, 0⟩,
    ⟨(some 4), .mv (.t 31), none, 0⟩] 0 none) .ret)))),
  [.tmp 4], 32, [0, 1, 4, 5, 6, 8]⟩
theorem ok_istrconv_FormatUint : cFn Tryd.prog eqsT newsT vf_istrconv_FormatUint.keep Tryd.f81 = some vf_istrconv_FormatUint := by kernel_rfl
def vf_istrconv_formatBits : VFn := ⟨(.seq (.reg [
    ⟨(some 10), .mv (.c (.p (.o (.nils)))), none, 0⟩,
    ⟨(some 11), .mv (.c (.p (.o (.str ⟨#[]⟩)))), none, 0⟩] 0 none) (.seq (.seq (.reg [
    ⟨(some 19), .mv (.t 2), none, 0⟩,
    ⟨(some 20), .bin .lss (.t 19) (.c (.p (.o (.int .i64 2)))), none, 0⟩,
    ⟨(some 21), .mv (.t 20), none, 0⟩,
    ⟨(some 22), .mv (.t 2), (some (21, false)), 0⟩,
    ⟨(some 23), .bin .eql (.t 22) (.c (.p (.o (.int .i64 10)))), (some (21, false)), 0⟩,
    ⟨(some 24), .pick (.t 21) (.c (.p (.o (.bool true)))) (.t 23), none, 0⟩,
    ⟨(some 25), .mv (.t 24), none, 0⟩,
    ⟨(some 26), .mv (.t 2), (some (25, false)), 0⟩,
    ⟨(some 27), .bin .gtr (.t 26) (.c (.p (.o (.int .i64 36)))), (some (25, false)), 0⟩,
    ⟨(some 28), .pick (.t 25) (.c (.p (.o (.bool true)))) (.t 27), none, 0⟩] 0 none) (.cond (.t 28) (.reg [
    ⟨(some 29), .bad, none, 0⟩,
    ⟨none, .bad, none, 0⟩] 0 none) .skip)) (.seq (.reg [
    ⟨(some 12), .new [.int .u8 0, .int .u8 0, .int .u8 0, .int .u8 0, .int .u8 0, .int .u8 0, .int .u8 0, .int .u8 0, .int .u8 0, .int .u8 0, .int .u8 0, .int .u8 0, .int .u8 0, .int .u8 0, .int .u8 0, .int .u8 0, .int .u8 0, .int .u8 0, .int .u8 0, .int .u8 0, .int .u8 0, .int .u8 0, .int .u8 0, .int .u8 0, .int .u8 0, .int .u8 0, .int .u8 0, .int .u8 0, .int .u8 0, .int .u8 0, .int .u8 0, .int .u8 0, .int .u8 0, .int .u8 0, .int .u8 0, .int .u8 0, .int .u8 0, .int .u8 0, .int .u8 0, .int .u8 0, .int .u8 0, .int .u8 0, .int .u8 0, .int .u8 0, .int .u8 0, .int .u8 0, .int .u8 0, .int .u8 0, .int .u8 0, .int .u8 0, .int .u8 0, .int .u8 0, .int .u8 0, .int .u8 0, .int .u8 0, .int .u8 0, .int .u8 0, .int .u8 0, .int .u8 0, .int .u8 0, .int .u8 0, .int .u8 0, .int .u8 0, .int .u8 0, .int .u8 0], none, 0⟩] 1 none) (.seq (.reg [
    ⟨(some 13), .mv (.c (.p (.o (.int .i64 65)))), none, 0⟩] 0 none) (.seq (.seq (.reg [
    ⟨(some 30), .mv (.t 3), none, 0⟩] 0 none) (.cond (.t 30) (.reg [
    ⟨(some 31), .mv (.t 1), none, 0⟩,
    ⟨(some 32), .un .neg (.t 31), none, 0⟩,
    ⟨(some 1), .mv (.t 32), none, 0⟩] 0 none) .skip)) (.seq (.seq (.reg [
    ⟨(some 33), .mv (.t 2), none, 0⟩,
    ⟨(some 34), .call 115 [(.t 33)] 0, none, 0⟩] 0 none) (.cond (.t 34) (.seq (.reg [
    ⟨(some 35), .mv (.t 2), none, 0⟩,
    ⟨(some 36), .cvi .u64 (.t 35), none, 0⟩,
    ⟨(some 37), .call 116 [(.t 36)] 0, none, 0⟩,
    ⟨(some 38), .cvi .u64 (.t 37), none, 0⟩,
    ⟨(some 14), .mv (.t 38), none, 0⟩] 0 none) (.seq (.reg [
    ⟨(some 39), .mv (.t 2), none, 0⟩,
    ⟨(some 40), .cvi .u64 (.t 39), none, 0⟩,
    ⟨(some 15), .mv (.t 40), none, 0⟩] 0 none) (.seq (.reg [
    ⟨(some 41), .mv (.t 2), none, 0⟩,
    ⟨(some 42), .cvi .u64 (.t 41), none, 0⟩,
    ⟨(some 43), .bin .sub (.t 42) (.c (.p (.o (.int .u64 1)))), none, 0⟩,
    ⟨(some 16), .mv (.t 43), none, 0⟩] 0 none) (.seq (.block 0 (.loop (.seq (.seq (.reg [
    ⟨(some 44), .mv (.t 1), none, 0⟩,
    ⟨(some 45), .mv (.t 15), none, 0⟩,
    ⟨(some 46), .bin .geq (.t 44) (.t 45), none, 0⟩] 0 none) (.cond (.t 46) .skip (.exit 0))) (.block 1 (.seq (.reg [
    ⟨(some 47), .mv (.t 13), none, 0⟩,
    ⟨(some 48), .bin .sub (.t 47) (.c (.p (.o (.int .i64 1)))), none, 0⟩,
    ⟨(some 13), .mv (.t 48), none, 0⟩] 0 none) (.seq (.reg [
    ⟨(some 49), .mv (.t 13), none, 0⟩,
    ⟨(some 50), .mv (.t 1), none, 0⟩,
    ⟨(some 51), .mv (.t 16), none, 0⟩,
    ⟨(some 52), .bin .and (.t 50) (.t 51), none, 0⟩,
    ⟨(some 53), .ixs (.c (.p (.o (.str ⟨#[48, 49, 50, 51, 52, 53, 54, 55, 56, 57, 97, 98, 99, 100, 101, 102, 103, 104, 105, 106, 107, 108, 109, 110, 111, 112, 113, 114, 115, 116, 117, 118, 119, 120, 121, 122]⟩)))) (.t 52), none, 0⟩,
    ⟨(some 54), .iaa 65 1 (.t 12) (.t 49), none, 0⟩,
    ⟨none, .st 1 (.t 54) (.t 53), none, 0⟩] 0 none) (.reg [
    ⟨(some 55), .mv (.t 1), none, 0⟩,
    ⟨(some 56), .mv (.t 14), none, 0⟩,
    ⟨(some 57), .bin .shr (.t 55) (.t 56), none, 0⟩,
    ⟨(some 1), .mv (.t 57), none, 0⟩] 0 none))))))) (.seq (.reg [
    ⟨(some 58), .mv (.t 13), none, 0⟩,
    ⟨(some 59), .bin .sub (.t 58) (.c (.p (.o (.int .i64 1)))), none, 0⟩,
    ⟨(some 13), .mv (.t 59), none, 0⟩] 0 none) (.reg [
    ⟨(some 60), .mv (.t 13), none, 0⟩,
    ⟨(some 61), .mv (.t 1), none, 0⟩,
    ⟨(some 62), .ixs (.c (.p (.o (.str ⟨#[48, 49, 50, 51, 52, 53, 54, 55, 56, 57, 97, 98, 99, 100, 101, 102, 103, 104, 105, 106, 107, 108, 109, 110, 111, 112, 113, 114, 115, 116, 117, 118, 119, 120, 121, 122]⟩)))) (.t 61), none, 0⟩,
    ⟨(some 63), .iaa 65 1 (.t 12) (.t 60), none, 0⟩,
    ⟨none, .st 1 (.t 63) (.t 62), none, 0⟩] 0 none)))))) (.seq (.reg [
    ⟨(some 64), .mv (.t 2), none, 0⟩,
    ⟨(some 65), .cvi .u64 (.t 64), none, 0⟩,
    ⟨(some 17), .mv (.t 65), none, 0⟩] 0 none) (.seq (.block 2 (.loop (.seq (.seq (.reg [
    ⟨(some 66), .mv (.t 1), none, 0⟩,
    ⟨(some 67), .mv (.t 17), none, 0⟩,
    ⟨(some 68), .bin .geq (.t 66) (.t 67), none, 0⟩] 0 none) (.cond (.t 68) .skip (.exit 2))) (.block 3 (.seq (.reg [
    ⟨(some 69), .mv (.t 13), none, 0⟩,
    ⟨(some 70), .bin .sub (.t 69) (.c (.p (.o (.int .i64 1)))), none, 0⟩,
    ⟨(some 13), .mv (.t 70), none, 0⟩] 0 none) (.seq (.reg [
    ⟨(some 71), .mv (.t 1), none, 0⟩,
    ⟨(some 72), .mv (.t 17), none, 0⟩,
    ⟨(some 73), .bin .quo (.t 71) (.t 72), none, 0⟩,
    ⟨(some 18), .mv (.t 73), none, 0⟩] 0 none) (.seq (.reg [
    ⟨(some 74), .mv (.t 13), none, 0⟩,
    ⟨(some 75), .mv (.t 1), none, 0⟩,
    ⟨(some 76), .mv (.t 18), none, 0⟩,
    ⟨(some 77), .mv (.t 17), none, 0⟩,
    ⟨(some 78), .bin .mul (.t 76) (.t 77), none, 0⟩,
    ⟨(some 79), .bin .sub (.t 75) (.t 78), none, 0⟩,
    ⟨(some 80), .ixs (.c (.p (.o (.str ⟨#[48, 49, 50, 51, 52, 53, 54, 55, 56, 57, 97, 98, 99, 100, 101, 102, 103, 104, 105, 106, 107, 108, 109, 110, 111, 112, 113, 114, 115, 116, 117, 118, 119, 120, 121, 122]⟩)))) (.t 79), none, 0⟩,
    ⟨(some 81), .iaa 65 1 (.t 12) (.t 74), none, 0⟩,
    ⟨none, .st 1 (.t 81) (.t 80), none, 0⟩] 0 none) (.reg [
    ⟨(some 82), .mv (.t 18), none, 0⟩,
    ⟨(some 1), .mv (.t 82), none, 0⟩] 0 none)))))))) (.seq (.reg [
    ⟨(some 83), .mv (.t 13), none, 0⟩,
    ⟨(some 84), .bin .sub (.t 83) (.c (.p (.o (.int .i64 1)))), none, 0⟩,
    ⟨(some 13), .mv (.t 84), none, 0⟩] 0 none) (.reg [
    ⟨(some 85), .mv (.t 13), none, 0⟩,
    ⟨(some 86), .mv (.t 1), none, 0⟩,
    ⟨(some 87), .ixs (.c (.p (.o (.str ⟨#[48, 49, 50, 51, 52, 53, 54, 55, 56, 57, 97, 98, 99, 100, 101, 102, 103, 104, 105, 106, 107, 108, 109, 110, 111, 112, 113, 114, 115, 116, 117, 118, 119, 120, 121, 122]⟩)))) (.t 86), none, 0⟩,
    ⟨(some 88), .iaa 65 1 (.t 12) (.t 85), none, 0⟩,
    ⟨none, .st 1 (.t 88) (.t 87), none, 0⟩] 0 none)))))) (.seq (.seq (.reg [
    ⟨(some 89), .mv (.t 3), none, 0⟩] 0 none) (.cond (.t 89) (.seq (.reg [
    ⟨(some 90), .mv (.t 13), none, 0⟩,
    ⟨(some 91), .bin .sub (.t 90) (.c (.p (.o (.int .i64 1)))), none, 0⟩,
    ⟨(some 13), .mv (.t 91), none, 0⟩] 0 none) (.reg [
    ⟨(some 92), .mv (.t 13), none, 0⟩,
    ⟨(some 93), .iaa 65 1 (.t 12) (.t 92), none, 0⟩,
    ⟨none, .st 1 (.t 93) (.c (.p (.o (.int .u8 45)))), none, 0⟩] 0 none)) .skip)) (.seq (.seq (.reg [
    ⟨(some 94), .mv (.t 4), none, 0⟩] 0 none) (.cond (.t 94) (.seq (.reg [
    ⟨(some 95), .mv (.t 0), none, 0⟩,
    ⟨(some 96), .mv (.t 13), none, 0⟩,
    ⟨(some 97), .sla 65 1 (.t 12) (some (.t 96)) none, none, 0⟩,
    ⟨(some 98), .app 1 1 (.t 95) (.t 97), none, 0⟩,
    ⟨(some 10), .mv (.t 98), none, 1⟩] 1 none) .ret) .skip)) (.seq (.reg [
    ⟨(some 99), .mv (.t 13), none, 0⟩,
    ⟨(some 100), .sla 65 1 (.t 12) (some (.t 99)) none, none, 0⟩,
    ⟨(some 101), .b2s (.t 100), none, 0⟩,
    ⟨(some 11), .mv (.t 101), none, 0⟩] 0 none) .ret))))))))),
  [.tmp 10, .tmp 11], 102, [0, 1, 2, 3, 4, 10, 11, 12, 13, 14, 15, 16, 17, 18]⟩
theorem ok_istrconv_formatBits : cFn Tryd.prog eqsT newsT vf_istrconv_formatBits.keep Tryd.f103 = some vf_istrconv_formatBits := by kernel_rfl
def vf_istrconv_isPowerOfTwo : VFn := ⟨(.seq (.reg [
    ⟨(some 2), .mv (.c (.p (.o (.bool false)))), none, 0⟩] 0 none) (.seq (.reg [
    ⟨(some 3), .mv (.t 0), none, 0⟩,
    ⟨(some 4), .mv (.t 0), none, 0⟩,
    ⟨(some 5), .bin .sub (.t 4) (.c (.p (.o (.int .i64 1)))), none, 0⟩,
    ⟨(some 6), .bin .and (.t 3) (.t 5), none, 0⟩,
    ⟨(some 7), .bin .eql (.t 6) (.c (.p (.o (.int .i64 0)))), none, 0⟩,
    ⟨(some 2), .mv (.t 7), none, 0⟩] 0 none) .ret)),
  [.tmp 2], 8, [0, 2]⟩
theorem ok_istrconv_isPowerOfTwo : cFn Tryd.prog eqsT newsT vf_istrconv_isPowerOfTwo.keep Tryd.f115 = some vf_istrconv_isPowerOfTwo := by kernel_rfl
def vf_bits_TrailingZeros : VFn := ⟨(.seq (.reg [
    ⟨(some 2), .mv (.c (.p (.o (.int .i64 0)))), none, 0⟩] 0 none) (.seq (.cond (.c (.p (.o (.bool false)))) (.seq (.reg [
    ⟨(some 3), .mv (.t 0), none, 0⟩,
    ⟨(some 4), .cvi .u32 (.t 3), none, 0⟩,
    ⟨(some 5), .call 121 [(.t 4)] 0, none, 0⟩,
    ⟨(some 2), .mv (.t 5), none, 0⟩] 0 none) .ret) .skip) (.seq (.reg [
    ⟨(some 6), .mv (.t 0), none, 0⟩,
    ⟨(some 7), .call 122 [(.t 6)] 0, none, 0⟩,
    ⟨(some 2), .mv (.t 7), none, 0⟩] 0 none) .ret))),
  [.tmp 2], 8, [0, 2]⟩
theorem ok_bits_TrailingZeros : cFn Tryd.prog eqsT newsT vf_bits_TrailingZeros.keep Tryd.f116 = some vf_bits_TrailingZeros := by kernel_rfl
def vf_bits_TrailingZeros32 : VFn := ⟨(.seq (.reg [
    ⟨(some 2), .mv (.c (.p (.o (.int .i64 0)))), none, 0⟩] 0 none) (.seq (.seq (.reg [
    ⟨(some 3), .mv (.t 0), none, 0⟩,
    ⟨(some 4), .bin .eql (.t 3) (.c (.p (.o (.int .u32 0)))), none, 0⟩] 0 none) (.cond (.t 4) (.seq (.reg [
    ⟨(some 2), .mv (.c (.p (.o (.int .i64 32)))), none, 0⟩] 0 none) .ret) .skip)) (.seq (.reg [
    ⟨(some 5), .mv (.t 0), none, 0⟩,
    ⟨(some 6), .mv (.t 0), none, 0⟩,
    ⟨(some 7), .un .neg (.t 6), none, 0⟩,
    ⟨(some 8), .bin .and (.t 5) (.t 7), none, 0⟩,
    ⟨(some 9), .bin .mul (.t 8) (.c (.p (.o (.int .u32 125613361)))), none, 0⟩,
    ⟨(some 10), .bin .shr (.t 9) (.c (.p (.o (.int .u64 27)))), none, 0⟩,
    ⟨(some 11), .iaa 32 1 (.c (.p (.o (.gp 6 0)))) (.t 10), none, 0⟩,
    ⟨(some 12), .ld none (.t 11), none, 0⟩,
    ⟨(some 13), .cvi .i64 (.t 12), none, 0⟩,
    ⟨(some 2), .mv (.t 13), none, 0⟩] 0 none) .ret))),
  [.tmp 2], 14, [0, 2]⟩
theorem ok_bits_TrailingZeros32 : cFn Tryd.prog eqsT newsT vf_bits_TrailingZeros32.keep Tryd.f121 = some vf_bits_TrailingZeros32 := by kernel_rfl
def vf_bits_TrailingZeros64 : VFn := ⟨(.seq (.reg [
    ⟨(some 2), .mv (.c (.p (.o (.int .i64 0)))), none, 0⟩] 0 none) (.seq (.seq (.reg [
    ⟨(some 3), .mv (.t 0), none, 0⟩,
    ⟨(some 4), .bin .eql (.t 3) (.c (.p (.o (.int .u64 0)))), none, 0⟩] 0 none) (.cond (.t 4) (.seq (.reg [
    ⟨(some 2), .mv (.c (.p (.o (.int .i64 64)))), none, 0⟩] 0 none) .ret) .skip)) (.seq (.reg [
    ⟨(some 5), .mv (.t 0), none, 0⟩,
    ⟨(some 6), .mv (.t 0), none, 0⟩,
    ⟨(some 7), .un .neg (.t 6), none, 0⟩,
    ⟨(some 8), .bin .and (.t 5) (.t 7), none, 0⟩,
    ⟨(some 9), .bin .mul (.t 8) (.c (.p (.o (.int .u64 285870213051353865)))), none, 0⟩,
    ⟨(some 10), .bin .shr (.t 9) (.c (.p (.o (.int .u64 58)))), none, 0⟩,
    ⟨(some 11), .iaa 64 1 (.c (.p (.o (.gp 7 0)))) (.t 10), none, 0⟩,
    ⟨(some 12), .ld none (.t 11), none, 0⟩,
    ⟨(some 13), .cvi .i64 (.t 12), none, 0⟩,
    ⟨(some 2), .mv (.t 13), none, 0⟩] 0 none) .ret))),
  [.tmp 2], 14, [0, 2]⟩
theorem ok_bits_TrailingZeros64 : cFn Tryd.prog eqsT newsT vf_bits_TrailingZeros64.keep Tryd.f122 = some vf_bits_TrailingZeros64 := by kernel_rfl
def vf_istrconv_small : VFn := ⟨(.seq (.reg [
    ⟨(some 2), .mv (.c (.p (.o (.str ⟨#[]⟩)))), none, 0⟩] 0 none) (.seq (.seq (.reg [
    ⟨(some 3), .mv (.t 0), none, 0⟩,
    ⟨(some 4), .bin .lss (.t 3) (.c (.p (.o (.int .i64 10)))), none, 0⟩] 0 none) (.cond (.t 4) (.seq (.reg [
    ⟨(some 5), .mv (.t 0), none, 0⟩,
    ⟨(some 6), .mv (.t 0), none, 0⟩,
    ⟨(some 7), .bin .add (.t 6) (.c (.p (.o (.int .i64 1)))), none, 0⟩,
    ⟨(some 8), .sls (.c (.p (.o (.str ⟨#[48, 49, 50, 51, 52, 53, 54, 55, 56, 57, 97, 98, 99, 100, 101, 102, 103, 104, 105, 106, 107, 108, 109, 110, 111, 112, 113, 114, 115, 116, 117, 118, 119, 120, 121, 122]⟩)))) (some (.t 5)) (some (.t 7)), none, 0⟩,
    ⟨(some 2), .mv (.t 8), none, 0⟩] 0 none) .ret) .skip)) (.seq (.reg [
    ⟨(some 9), .mv (.t 0), none, 0⟩,
    ⟨(some 10), .bin .mul (.t 9) (.c (.p (.o (.int .i64 2)))), none, 0⟩,
    ⟨(some 11), .mv (.t 0), none, 0⟩,
    ⟨(some 12), .bin .mul (.t 11) (.c (.p (.o (.int .i64 2)))), none, 0⟩,
    ⟨(some 13), .bin .add (.t 12) (.c (.p (.o (.int .i64 2)))), none, 0⟩,
    ⟨(some 14), .sls (.c (.p (.o (.str ⟨#[48, 48, 48, 49, 48, 50, 48, 51, 48, 52, 48, 53, 48, 54, 48, 55, 48, 56, 48, 57, 49, 48, 49, 49, 49, 50, 49, 51, 49, 52, 49, 53, 49, 54, 49, 55, 49, 56, 49, 57, 50, 48, 50, 49, 50, 50, 50, 51, 50, 52, 50, 53, 50, 54, 50, 55, 50, 56, 50, 57, 51, 48, 51, 49, 51, 50, 51, 51, 51, 52, 51, 53, 51, 54, 51, 55, 51, 56, 51, 57, 52, 48, 52, 49, 52, 50, 52, 51, 52, 52, 52, 53, 52, 54, 52, 55, 52, 56, 52, 57, 53, 48, 53, 49, 53, 50, 53, 51, 53, 52, 53, 53, 53, 54, 53, 55, 53, 56, 53, 57, 54, 48, 54, 49, 54, 50, 54, 51, 54, 52, 54, 53, 54, 54, 54, 55, 54, 56, 54, 57, 55, 48, 55, 49, 55, 50, 55, 51, 55, 52, 55, 53, 55, 54, 55, 55, 55, 56, 55, 57, 56, 48, 56, 49, 56, 50, 56, 51, 56, 52, 56, 53, 56, 54, 56, 55, 56, 56, 56, 57, 57, 48, 57, 49, 57, 50, 57, 51, 57, 52, 57, 53, 57, 54, 57, 55, 57, 56, 57, 57]⟩)))) (some (.t 10)) (some (.t 13)), none, 0⟩,
    ⟨(some 2), .mv (.t 14), none, 0⟩] 0 none) .ret))),
  [.tmp 2], 15, [0, 2]⟩
theorem ok_istrconv_small : cFn Tryd.prog eqsT newsT vf_istrconv_small.keep Tryd.f100 = some vf_istrconv_small := by kernel_rfl
def digB : ByteArray := ⟨#[48, 49, 50, 51, 52, 53, 54, 55, 56, 57, 97, 98, 99, 100, 101, 102, 103, 104, 105, 106, 107, 108, 109, 110, 111, 112, 113, 114, 115, 116, 117, 118, 119, 120, 121, 122]⟩
/-- A number of two hundred and fifty-six and more, in sixteens. -/
def hex3 (n : Int) : ByteArray := ⟨#[UInt8.ofNat (bAt digB (n / 16 / 16).toNat).toNat, UInt8.ofNat (bAt digB (n / 16 % 16).toNat).toNat, UInt8.ofNat (bAt digB (n % 16).toNat).toNat]⟩
theorem LookG.tz {b o : Nat} {K : SV → Prop} (h7 : 8 ≤ G.n) (ht : G.w0.cell? ⟨7, 15, none⟩ = some (.int .u8 4)) (hb : b = 7) (ho : o = 15) (g : K (.int .u8 4)) : LookG G b o K := by
  subst hb; subst ho; exact ⟨.int .u8 4, _, by omega, ht, rfl, g⟩
theorem Arith.and16 {a : Int} {K : Int → Prop} (h : 0 ≤ a ∧ a ≤ 18446744073709551615) (g : K (a % 16)) : Arith .u64 ((BitVec.ofInt IntKind.u64.bits a &&& BitVec.ofInt IntKind.u64.bits (16 - 1)).toNat : Int) K := Arith.andu64_15 h g
set_option maxHeartbeats 4000000 in
theorem fmt_det (h7 : 8 ≤ G.n) (htz : G.w0.cell? ⟨7, 15, none⟩ = some (.int .u8 4)) (n : Int) (hn : 256 ≤ n ∧ n ≤ 511) : Det G Tryd.prog 65 [.o (.int .u64 n), .o (.int .i64 16)] [] (vS (hex3 n)) [] := by
  have e1 : n.fdiv (2 ^ min (Int.toNat 4) IntKind.u64.bits) = n / 16 := shr_u64_4 n
  have e2 : (n.fdiv (2 ^ min (Int.toNat 4) IntKind.u64.bits)).fdiv (2 ^ min (Int.toNat 4) IntKind.u64.bits) = n / 16 / 16 := by rw [shr_u64_4, shr_u64_4]
  refine can_of_W known mix Tryd.func65 (by kernel_rfl) ok_strconv_FormatUint (Nat.le_of_ble_eq_true rfl) ?_
  repeat' ((conv => whnf); first
    | ((with_reducible refine Look.mk ?_); refine ⟨_, rfl, ?_⟩)
    | ((with_reducible refine LookN.zeros ?_))
    | ((with_reducible refine LookN.bytes ?_ ?_); (simp; done))
    | ((with_reducible refine BytesW.bytes ?_))
    | ((with_reducible refine Look.byte ?_ ?_); omega)
    | ((with_reducible refine Look.setb ?_ ?_ ?_); exact bv8_bd _; omega)
    | ((with_reducible refine LookN.setb ?_ ?_ ?_); exact bv8_bd _; omega)
    | ((with_reducible refine LookN.mk ?_); refine ⟨_, rfl, ?_⟩)
    | ((with_reducible refine Need.mk ?_ ?_); first | ((with_reducible refine needB ?_); kernel_rfl) | with_reducible rfl | omega | (with_reducible refine ⟨rfl, ?_⟩; focus omega) | (simp only [ByteArray.size_append, size_lit, List.size_toArray, List.length_cons, List.length_nil]; omega) | exact rfl | trivial | exact Nat.le_of_ble_eq_true rfl | (exact ⟨rfl, by omega⟩) | (intro h; first | rfl | cases h) | (simp only [lenS_text, lenS_setN, lenS_zeros]; omega))
    | ((with_reducible refine BytesW.mk ?_); refine ⟨_, rfl, ?_⟩)
    | ((with_reducible refine WrT.same ?_ ?_); focus (repeat (first | exact trivial | ((conv => whnf); refine ⟨rfl, ?_⟩))))
    | (with_reducible refine WrT.all ?_)
    | ((with_reducible refine Test.dt ?_ ?_); focus decide +kernel)
    | ((with_reducible refine Test.df ?_ ?_); focus decide +kernel)
    | ((with_reducible refine Test.ieT ?_ ?_); focus decide +kernel)
    | ((with_reducible refine Test.ieF ?_ ?_); focus decide +kernel)
    | ((with_reducible refine Test.neT ?_ ?_); focus decide +kernel)
    | ((with_reducible refine Test.neF ?_ ?_); focus decide +kernel)
    | ((with_reducible refine Test.b ?_ ?_); focus decide +kernel)
    | ((with_reducible refine Test.nb ?_ ?_); focus decide +kernel)
    | ((with_reducible refine Arith.and16 ?_ ?_); omega)
    | ((with_reducible refine Need.mk ?_ ?_); focus decide +kernel)
    | ((with_reducible refine LookG.tz h7 htz rfl ?_ ?_); focus decide +kernel)
    | (with_reducible refine LoopW.unroll (fun X hX => ?_))
    | (refine hX _ _ ?_)
    | (with_reducible refine CallW.can (can_of_W known mix Tryd.func81 (by kernel_rfl) ok_istrconv_FormatUint (Nat.le_of_ble_eq_true rfl) ?_) (fun _ _ h => h))
    | (with_reducible refine CallW.can (can_of_W known mix Tryd.func103 (by kernel_rfl) ok_istrconv_formatBits (Nat.le_of_ble_eq_true rfl) ?_) (fun _ _ h => h))
    | (with_reducible refine CallW.can (can_of_W known mix Tryd.func115 (by kernel_rfl) ok_istrconv_isPowerOfTwo (Nat.le_of_ble_eq_true rfl) ?_) (fun _ _ h => h))
    | (with_reducible refine CallW.can (can_of_W known mix Tryd.func116 (by kernel_rfl) ok_bits_TrailingZeros (Nat.le_of_ble_eq_true rfl) ?_) (fun _ _ h => h))
    | (with_reducible refine CallW.can (can_of_W known mix Tryd.func121 (by kernel_rfl) ok_bits_TrailingZeros32 (Nat.le_of_ble_eq_true rfl) ?_) (fun _ _ h => h))
    | (with_reducible refine CallW.can (can_of_W known mix Tryd.func122 (by kernel_rfl) ok_bits_TrailingZeros64 (Nat.le_of_ble_eq_true rfl) ?_) (fun _ _ h => h))
    | (with_reducible refine CallW.can (can_of_W known mix Tryd.func100 (by kernel_rfl) ok_istrconv_small (Nat.le_of_ble_eq_true rfl) ?_) (fun _ _ h => h))
    | ((with_reducible refine Test.tmodEqT ?_ ?_ ?_); omega; focus first | omega | assumption)
    | ((with_reducible refine Test.tmodEqF ?_ ?_ ?_); omega; focus first | omega | assumption)
    | ((with_reducible refine Test.tmodNeT ?_ ?_ ?_); omega; focus first | omega | assumption)
    | ((with_reducible refine Test.tmodNeF ?_ ?_ ?_); omega; focus first | omega | assumption)
    | ((with_reducible refine Test.tmodEq ?_ (fun h => ?_) (fun h => ?_)); omega)
    | ((with_reducible refine Test.tmodNe ?_ (fun h => ?_) (fun h => ?_)); omega)
    | ((with_reducible refine Test.notT ?_ ?_); focus assumption)
    | ((with_reducible refine Test.notF ?_ ?_); focus assumption)
    | (with_reducible refine Test.notIe (fun h => ?_) (fun h => ?_))
    | (with_reducible refine Test.notD (fun h => ?_) (fun h => ?_))
    | ((with_reducible refine Test.empty (fun h => ?_) (fun h => ?_)))
    | (with_reducible refine Test.tt ?_)
    | (with_reducible refine Test.ff ?_)
    | ((with_reducible refine Test.dt ?_ ?_); omega)
    | ((with_reducible refine Test.df ?_ ?_); omega)
    | (with_reducible refine Test.d (fun h => ?_) (fun h => ?_))
    | ((with_reducible refine Test.ieT ?_ ?_); omega)
    | ((with_reducible refine Test.ieF ?_ ?_); omega)
    | ((with_reducible refine Test.neT ?_ ?_); omega)
    | ((with_reducible refine Test.neF ?_ ?_); omega)
    | (with_reducible refine Test.ie (fun h => ?_) (fun h => ?_))
    | (with_reducible refine Test.ne (fun h => ?_) (fun h => ?_))
    | ((with_reducible refine Test.b ?_ ?_); (focus first | assumption | (simp [negB]; done) | exact rfl))
    | ((with_reducible refine Test.nb ?_ ?_); (focus first | assumption | (simp [negB]; done) | exact rfl))
    | (with_reducible refine Test.notS (fun h => ?_) (fun h => ?_))
    | (with_reducible refine Test.mk (fun h => ?_) (fun h => ?_))
    | ((with_reducible refine Arith.andu64_15 ?_ ?_); omega)
    | ((with_reducible refine Arith.tdiv ?_ ?_); omega)
    | (with_reducible refine Arith.bv8 ?_)
    | (with_reducible refine Arith.bv16 ?_)
    | (with_reducible refine Arith.bv32 ?_)
    | (with_reducible refine Arith.bv64 ?_)
    | ((with_reducible refine Arith.i64 ?_ ?_); omega)
    | ((with_reducible refine Arith.u64 ?_ ?_); omega)
    | ((with_reducible refine Arith.u32 ?_ ?_); omega)
    | ((with_reducible refine Arith.u16 ?_ ?_); omega)
    | ((with_reducible refine Arith.u8 ?_ ?_); omega)
    | ((with_reducible refine Arith.i32 ?_ ?_); omega)
    | ((with_reducible refine Arith.i64 ?_ ?_); simp (discharger := omega) only [Int.tdiv_eq_ediv_of_nonneg, shr_u8_4, shl_u8_4, shr_u16_4, shl_u16_4, shr_u16_8, shl_u16_8, shr_u32_4, shl_u32_4, shr_u32_8, shl_u32_8, shr_u32_16, shl_u32_16, shr_u32_24, shl_u32_24, shr_u64_4, shl_u64_4, shr_u64_8, shl_u64_8, shr_u64_16, shl_u64_16, shr_u64_24, shl_u64_24, shr_u64_40, shl_u64_40, shr_i64_4, shl_i64_4, shr_i64_8, shl_i64_8, shr_i64_16, shl_i64_16, shr_i64_24, shl_i64_24, shr_i64_40, shl_i64_40]; omega)
    | ((with_reducible refine Arith.u64 ?_ ?_); simp (discharger := omega) only [Int.tdiv_eq_ediv_of_nonneg, shr_u8_4, shl_u8_4, shr_u16_4, shl_u16_4, shr_u16_8, shl_u16_8, shr_u32_4, shl_u32_4, shr_u32_8, shl_u32_8, shr_u32_16, shl_u32_16, shr_u32_24, shl_u32_24, shr_u64_4, shl_u64_4, shr_u64_8, shl_u64_8, shr_u64_16, shl_u64_16, shr_u64_24, shl_u64_24, shr_u64_40, shl_u64_40, shr_i64_4, shl_i64_4, shr_i64_8, shl_i64_8, shr_i64_16, shl_i64_16, shr_i64_24, shl_i64_24, shr_i64_40, shl_i64_40]; omega)
    | ((with_reducible refine Arith.u32 ?_ ?_); simp (discharger := omega) only [Int.tdiv_eq_ediv_of_nonneg, shr_u8_4, shl_u8_4, shr_u16_4, shl_u16_4, shr_u16_8, shl_u16_8, shr_u32_4, shl_u32_4, shr_u32_8, shl_u32_8, shr_u32_16, shl_u32_16, shr_u32_24, shl_u32_24, shr_u64_4, shl_u64_4, shr_u64_8, shl_u64_8, shr_u64_16, shl_u64_16, shr_u64_24, shl_u64_24, shr_u64_40, shl_u64_40, shr_i64_4, shl_i64_4, shr_i64_8, shl_i64_8, shr_i64_16, shl_i64_16, shr_i64_24, shl_i64_24, shr_i64_40, shl_i64_40]; omega)
    | ((with_reducible refine Arith.u16 ?_ ?_); simp (discharger := omega) only [Int.tdiv_eq_ediv_of_nonneg, shr_u8_4, shl_u8_4, shr_u16_4, shl_u16_4, shr_u16_8, shl_u16_8, shr_u32_4, shl_u32_4, shr_u32_8, shl_u32_8, shr_u32_16, shl_u32_16, shr_u32_24, shl_u32_24, shr_u64_4, shl_u64_4, shr_u64_8, shl_u64_8, shr_u64_16, shl_u64_16, shr_u64_24, shl_u64_24, shr_u64_40, shl_u64_40, shr_i64_4, shl_i64_4, shr_i64_8, shl_i64_8, shr_i64_16, shl_i64_16, shr_i64_24, shl_i64_24, shr_i64_40, shl_i64_40]; omega)
    | ((with_reducible refine Arith.u8 ?_ ?_); simp (discharger := omega) only [Int.tdiv_eq_ediv_of_nonneg, shr_u8_4, shl_u8_4, shr_u16_4, shl_u16_4, shr_u16_8, shl_u16_8, shr_u32_4, shl_u32_4, shr_u32_8, shl_u32_8, shr_u32_16, shl_u32_16, shr_u32_24, shl_u32_24, shr_u64_4, shl_u64_4, shr_u64_8, shl_u64_8, shr_u64_16, shl_u64_16, shr_u64_24, shl_u64_24, shr_u64_40, shl_u64_40, shr_i64_4, shl_i64_4, shr_i64_8, shl_i64_8, shr_i64_16, shl_i64_16, shr_i64_24, shl_i64_24, shr_i64_40, shl_i64_40]; omega)
    | (with_reducible refine Arith.mk ?_)
    | (with_reducible refine Ends.mk ?_))
  all_goals refine ⟨?_, rfl⟩
  all_goals first
    | (rw [e2, e1]; rfl)
end G4
end Go.Proofs.YtnikpanebkknfaaDoor.VM
