/- law 16 by the evaluator: the law TcpOptions. -/
import Derived.Test.YtlpeefemffmpmaaV16g
namespace Go.Proofs.Ytlpeefemffmpmaa.VM
namespace L16
open Go.RowKit
set_option linter.unusedVariables false
set_option linter.unusedSimpArgs false
set_option maxRecDepth 100000
def vf_law16_TcpOptions : VFn := ⟨(.seq (.reg [
    ⟨(some 4), .box (.t 0), none, 0⟩,
    ⟨(some 8), .mv (.c (.p (.o (.bool false)))), none, 1⟩] 1 none) (.seq (.seq (.reg [
    ⟨(some 17), .fad 11 (.t 4), none, 0⟩,
    ⟨(some 18), .ld none (.t 17), none, 0⟩,
    ⟨(some 19), .len false (.t 18), none, 0⟩,
    ⟨(some 20), .bin .gtr (.t 19) (.c (.p (.o (.int .i64 1024)))), none, 0⟩,
    ⟨(some 21), .mv (.t 20), none, 0⟩,
    ⟨(some 22), .mv (.t 2), (some (21, false)), 0⟩,
    ⟨(some 23), .len false (.t 22), (some (21, false)), 0⟩,
    ⟨(some 24), .bin .gtr (.t 23) (.c (.p (.o (.int .i64 20)))), (some (21, false)), 0⟩,
    ⟨(some 25), .pick (.t 21) (.c (.p (.o (.bool true)))) (.t 24), none, 0⟩,
    ⟨(some 26), .mv (.t 25), none, 0⟩,
    ⟨(some 27), .mv (.t 1), (some (26, false)), 0⟩,
    ⟨(some 28), .bin .lss (.t 27) (.c (.p (.o (.int .u8 2)))), (some (26, false)), 0⟩,
    ⟨(some 29), .pick (.t 26) (.c (.p (.o (.bool true)))) (.t 28), none, 0⟩,
    ⟨(some 30), .mv (.t 29), none, 0⟩,
    ⟨(some 31), .mv (.t 1), (some (30, false)), 0⟩,
    ⟨(some 32), .bin .eql (.t 31) (.c (.p (.o (.int .u8 2)))), (some (30, false)), 0⟩,
    ⟨(some 33), .mv (.t 32), (some (30, false)), 0⟩,
    ⟨(some 34), .mv (.t 2), (some (33, true)), 0⟩,
    ⟨(some 35), .len false (.t 34), (some (33, true)), 0⟩,
    ⟨(some 36), .bin .eql (.t 35) (.c (.p (.o (.int .i64 2)))), (some (33, true)), 0⟩,
    ⟨(some 37), .pick (.t 33) (.t 36) (.c (.p (.o (.bool false)))), (some (30, false)), 0⟩,
    ⟨(some 38), .pick (.t 30) (.c (.p (.o (.bool true)))) (.t 37), none, 0⟩,
    ⟨(some 39), .mv (.t 38), none, 0⟩,
    ⟨(some 40), .mv (.t 1), (some (39, false)), 0⟩,
    ⟨(some 41), .bin .eql (.t 40) (.c (.p (.o (.int .u8 3)))), (some (39, false)), 0⟩,
    ⟨(some 42), .mv (.t 41), (some (39, false)), 0⟩,
    ⟨(some 43), .mv (.t 2), (some (42, true)), 0⟩,
    ⟨(some 44), .len false (.t 43), (some (42, true)), 0⟩,
    ⟨(some 45), .bin .eql (.t 44) (.c (.p (.o (.int .i64 1)))), (some (42, true)), 0⟩,
    ⟨(some 46), .pick (.t 42) (.t 45) (.c (.p (.o (.bool false)))), (some (39, false)), 0⟩,
    ⟨(some 47), .pick (.t 39) (.c (.p (.o (.bool true)))) (.t 46), none, 0⟩,
    ⟨(some 48), .mv (.t 47), none, 0⟩,
    ⟨(some 49), .ld (some 12) (.t 4), (some (48, false)), 0⟩,
    ⟨(some 50), .call 42 [(.t 49)] 0, (some (48, false)), 0⟩,
    ⟨(some 51), .un .not (.t 50), (some (48, false)), 0⟩,
    ⟨(some 52), .pick (.t 48) (.c (.p (.o (.bool true)))) (.t 51), none, 0⟩] 0 none) (.cond (.t 52) (.seq (.reg [
    ⟨(some 53), .call 35 [] 0, none, 0⟩,
    ⟨(some 8), .mv (.t 53), none, 0⟩] 0 none) .ret) .skip)) (.seq (.reg [
    ⟨(some 9), .mv (.c (.p (.o (.str ⟨#[]⟩)))), none, 0⟩] 0 none) (.seq (.seq (.reg [
    ⟨(some 54), .fad 9 (.t 4), none, 0⟩,
    ⟨(some 55), .ld none (.t 54), none, 0⟩,
    ⟨(some 56), .bin .gtr (.t 55) (.c (.p (.o (.int .u16 0)))), none, 0⟩] 0 none) (.cond (.t 56) (.reg [
    ⟨(some 57), .fad 9 (.t 4), none, 0⟩,
    ⟨(some 58), .ld none (.t 57), none, 0⟩,
    ⟨(some 59), .bin .shr (.t 58) (.c (.p (.o (.int .u64 8)))), none, 0⟩,
    ⟨(some 60), .cvi .u8 (.t 59), none, 0⟩,
    ⟨(some 61), .fad 9 (.t 4), none, 0⟩,
    ⟨(some 62), .ld none (.t 61), none, 0⟩,
    ⟨(some 63), .cvi .u8 (.t 62), none, 0⟩,
    ⟨(some 64), .bsl 2 [.int .u8 0, .int .u8 0] [(0, 1, (.t 60)), (1, 1, (.t 63))], none, 0⟩,
    ⟨(some 65), .b2s (.t 64), none, 1⟩,
    ⟨(some 66), .bin .add (.c (.p (.o (.str ⟨#[2, 4]⟩)))) (.t 65), none, 1⟩,
    ⟨(some 9), .mv (.t 66), none, 1⟩] 1 none) .skip)) (.seq (.seq (.reg [
    ⟨(some 67), .fad 10 (.t 4), none, 0⟩,
    ⟨(some 68), .ld none (.t 67), none, 0⟩,
    ⟨(some 69), .bin .geq (.t 68) (.c (.p (.o (.int .i64 0)))), none, 0⟩] 0 none) (.cond (.t 69) (.reg [
    ⟨(some 70), .mv (.t 9), none, 0⟩,
    ⟨(some 71), .bin .add (.t 70) (.c (.p (.o (.str ⟨#[3, 3]⟩)))), none, 0⟩,
    ⟨(some 72), .fad 10 (.t 4), none, 0⟩,
    ⟨(some 73), .ld none (.t 72), none, 0⟩,
    ⟨(some 74), .cvi .u8 (.t 73), none, 0⟩,
    ⟨(some 75), .bsl 1 [.int .u8 0] [(0, 1, (.t 74))], none, 0⟩,
    ⟨(some 76), .b2s (.t 75), none, 1⟩,
    ⟨(some 77), .bin .add (.t 71) (.t 76), none, 1⟩,
    ⟨(some 9), .mv (.t 77), none, 1⟩] 1 none) .skip)) (.seq (.reg [
    ⟨(some 78), .mv (.t 1), none, 0⟩,
    ⟨(some 79), .mv (.t 2), none, 0⟩,
    ⟨(some 80), .len false (.t 79), none, 0⟩,
    ⟨(some 81), .bin .add (.t 80) (.c (.p (.o (.int .i64 2)))), none, 0⟩,
    ⟨(some 82), .cvi .u8 (.t 81), none, 0⟩,
    ⟨(some 83), .bsl 2 [.int .u8 0, .int .u8 0] [(0, 1, (.t 78)), (1, 1, (.t 82))], none, 0⟩,
    ⟨(some 84), .b2s (.t 83), none, 1⟩,
    ⟨(some 85), .mv (.t 2), none, 1⟩,
    ⟨(some 86), .bin .add (.t 84) (.t 85), none, 1⟩,
    ⟨(some 10), .mv (.t 86), none, 1⟩] 1 none) (.seq (.reg [
    ⟨(some 87), .mv (.t 10), none, 0⟩,
    ⟨(some 88), .mv (.t 9), none, 0⟩,
    ⟨(some 89), .bin .add (.t 87) (.t 88), none, 0⟩,
    ⟨(some 11), .mv (.t 89), none, 0⟩] 0 none) (.seq (.seq (.reg [
    ⟨(some 90), .mv (.t 3), none, 0⟩] 0 none) (.cond (.t 90) (.reg [
    ⟨(some 91), .mv (.t 9), none, 0⟩,
    ⟨(some 92), .bin .add (.t 91) (.c (.p (.o (.str ⟨#[1]⟩)))), none, 0⟩,
    ⟨(some 93), .mv (.t 10), none, 0⟩,
    ⟨(some 94), .bin .add (.t 92) (.t 93), none, 0⟩,
    ⟨(some 11), .mv (.t 94), none, 0⟩] 0 none) .skip)) (.seq (.block 0 (.loop (.seq (.seq (.reg [
    ⟨(some 95), .mv (.t 11), none, 0⟩,
    ⟨(some 96), .len false (.t 95), none, 0⟩,
    ⟨(some 97), .bin .rem (.t 96) (.c (.p (.o (.int .i64 4)))), none, 0⟩,
    ⟨(some 98), .bin .neq (.t 97) (.c (.p (.o (.int .i64 0)))), none, 0⟩] 0 none) (.cond (.t 98) .skip (.exit 0))) (.block 1 (.reg [
    ⟨(some 99), .mv (.t 11), none, 0⟩,
    ⟨(some 100), .bin .add (.t 99) (.c (.p (.o (.str ⟨#[1]⟩)))), none, 0⟩,
    ⟨(some 11), .mv (.t 100), none, 0⟩] 0 none))))) (.seq (.seq (.reg [
    ⟨(some 101), .mv (.t 11), none, 0⟩,
    ⟨(some 102), .len false (.t 101), none, 0⟩,
    ⟨(some 103), .bin .gtr (.t 102) (.c (.p (.o (.int .i64 40)))), none, 0⟩] 0 none) (.cond (.t 103) (.seq (.reg [
    ⟨(some 104), .call 35 [] 0, none, 0⟩,
    ⟨(some 8), .mv (.t 104), none, 0⟩] 0 none) .ret) .skip)) (.seq (.reg [
    ⟨(some 106), .fad 0 (.t 4), none, 0⟩,
    ⟨(some 107), .fad 0 (.t 106), none, 0⟩,
    ⟨(some 108), .fad 0 (.t 107), none, 0⟩,
    ⟨(some 109), .ld none (.t 108), none, 0⟩,
    ⟨(some 110), .fad 0 (.t 4), none, 0⟩,
    ⟨(some 111), .fad 2 (.t 110), none, 0⟩,
    ⟨(some 112), .fad 0 (.t 111), none, 0⟩,
    ⟨(some 113), .ld none (.t 112), none, 0⟩,
    ⟨(some 114), .ld (some 12) (.t 4), none, 0⟩,
    ⟨(some 115), .mv (.t 11), none, 0⟩,
    ⟨(some 116), .call 46 [(.t 114), (.t 115)] 0, none, 0⟩,
    ⟨(some 117), .call 38 [(.t 109), (.t 113), (.t 116)] 0, none, 0⟩,
    ⟨(some 105), .mv (.t 117), none, 0⟩,
    ⟨(some 118), .ext 0 (.t 105), none, 0⟩,
    ⟨(some 119), .ext 1 (.t 105), none, 0⟩,
    ⟨(some 12), .new [.int .u32 0, .int .u16 0, .int .u32 0, .int .u16 0, .int .u32 0, .int .u32 0, .int .u8 0, .int .u16 0, .int .u16 0, .int .u16 0, .int .i64 0, .str ⟨#[]⟩], none, 0⟩,
    ⟨none, .st 12 (.t 12) (.t 118), none, 1⟩,
    ⟨(some 13), .mv (.t 119), none, 1⟩] 1 (some [(0, 4), (1, 4), (2, 4), (3, 4), (0, 5), (1, 5), (2, 5), (3, 5), (0, 6), (1, 6), (2, 6), (3, 6), (0, 7), (1, 7), (2, 7), (3, 7), (0, 8), (1, 8), (2, 8), (3, 8), (4, 8), (5, 8), (6, 8), (7, 8), (0, 9), (1, 9), (2, 9), (3, 9), (4, 9), (5, 9), (6, 9), (7, 9), (8, 9), (0, 10), (1, 10), (2, 10), (3, 10), (4, 10), (5, 10), (6, 10), (7, 10), (13, 14), (0, 15), (1, 15), (2, 15), (3, 15), (4, 15), (5, 15), (6, 15), (7, 15), (8, 15), (9, 15), (10, 15), (11, 15), (12, 15), (13, 15), (14, 15), (14, 16)])) (.seq (.seq (.reg [
    ⟨(some 120), .mv (.t 13), none, 0⟩,
    ⟨(some 121), .bin .neq (.t 120) (.c (.p (.o (.int .i64 0)))), none, 0⟩,
    ⟨(some 122), .mv (.t 121), none, 0⟩,
    ⟨(some 123), .ld (some 12) (.t 12), (some (122, false)), 0⟩,
    ⟨(some 124), .ld (some 12) (.t 4), (some (122, false)), 0⟩,
    ⟨(some 125), .eq (.flat [.int .u32, .int .u16, .int .u32, .int .u16, .int .u32, .int .u32, .int .u8, .int .u16, .int .u16, .int .u16, .int .i64, .str]) true (.t 123) (.t 124), (some (122, false)), 0⟩,
    ⟨(some 126), .pick (.t 122) (.c (.p (.o (.bool true)))) (.t 125), none, 0⟩] 0 none) (.cond (.t 126) (.seq (.reg [
    ⟨(some 8), .mv (.c (.p (.o (.bool false)))), none, 0⟩] 0 none) .ret) .skip)) (.seq (.reg [
    ⟨(some 127), .ld (some 12) (.t 4), none, 0⟩,
    ⟨(some 14), .new [.int .u32 0, .int .u16 0, .int .u32 0, .int .u16 0, .int .u32 0, .int .u32 0, .int .u8 0, .int .u16 0, .int .u16 0, .int .u16 0, .int .i64 0, .str ⟨#[]⟩], none, 0⟩,
    ⟨none, .st 12 (.t 14) (.t 127), none, 1⟩] 1 none) (.seq (.reg [
    ⟨(some 128), .fad 6 (.t 14), none, 0⟩,
    ⟨(some 129), .ld none (.t 128), none, 0⟩,
    ⟨(some 130), .bin .andNot (.t 129) (.c (.p (.o (.int .u8 2)))), none, 0⟩,
    ⟨(some 131), .fad 6 (.t 14), none, 0⟩,
    ⟨none, .st 1 (.t 131) (.t 130), none, 0⟩] 0 none) (.seq (.reg [
    ⟨(some 133), .fad 0 (.t 4), none, 0⟩,
    ⟨(some 134), .fad 0 (.t 133), none, 0⟩,
    ⟨(some 135), .fad 0 (.t 134), none, 0⟩,
    ⟨(some 136), .ld none (.t 135), none, 0⟩,
    ⟨(some 137), .fad 0 (.t 4), none, 0⟩,
    ⟨(some 138), .fad 2 (.t 137), none, 0⟩,
    ⟨(some 139), .fad 0 (.t 138), none, 0⟩,
    ⟨(some 140), .ld none (.t 139), none, 0⟩,
    ⟨(some 141), .ld (some 12) (.t 14), none, 0⟩,
    ⟨(some 142), .mv (.t 11), none, 0⟩,
    ⟨(some 143), .call 46 [(.t 141), (.t 142)] 0, none, 0⟩,
    ⟨(some 144), .call 38 [(.t 136), (.t 140), (.t 143)] 0, none, 0⟩,
    ⟨(some 132), .mv (.t 144), none, 0⟩,
    ⟨(some 145), .ext 0 (.t 132), none, 0⟩,
    ⟨(some 146), .ext 1 (.t 132), none, 0⟩,
    ⟨(some 15), .new [.int .u32 0, .int .u16 0, .int .u32 0, .int .u16 0, .int .u32 0, .int .u32 0, .int .u8 0, .int .u16 0, .int .u16 0, .int .u16 0, .int .i64 0, .str ⟨#[]⟩], none, 0⟩,
    ⟨none, .st 12 (.t 15) (.t 145), none, 1⟩,
    ⟨(some 16), .mv (.t 146), none, 1⟩] 1 (some [(0, 4), (1, 4), (2, 4), (3, 4), (0, 5), (1, 5), (2, 5), (3, 5), (0, 6), (1, 6), (2, 6), (3, 6), (0, 7), (1, 7), (2, 7), (3, 7), (0, 8), (1, 8), (2, 8), (3, 8), (4, 8), (5, 8), (6, 8), (7, 8), (0, 9), (1, 9), (2, 9), (3, 9), (4, 9), (5, 9), (6, 9), (7, 9), (8, 9), (0, 10), (1, 10), (2, 10), (3, 10), (4, 10), (5, 10), (6, 10), (7, 10), (13, 14), (0, 15), (1, 15), (2, 15), (3, 15), (4, 15), (5, 15), (6, 15), (7, 15), (8, 15), (9, 15), (10, 15), (11, 15), (12, 15), (13, 15), (14, 15), (14, 16)])) (.seq (.reg [
    ⟨(some 147), .mv (.t 16), none, 0⟩,
    ⟨(some 148), .bin .eql (.t 147) (.c (.p (.o (.int .i64 0)))), none, 0⟩,
    ⟨(some 149), .mv (.t 148), none, 0⟩,
    ⟨(some 150), .fad 9 (.t 15), (some (149, true)), 0⟩,
    ⟨(some 151), .ld none (.t 150), (some (149, true)), 0⟩,
    ⟨(some 152), .bin .eql (.t 151) (.c (.p (.o (.int .u16 0)))), (some (149, true)), 0⟩,
    ⟨(some 153), .pick (.t 149) (.t 152) (.c (.p (.o (.bool false)))), none, 0⟩,
    ⟨(some 154), .mv (.t 153), none, 0⟩,
    ⟨(some 155), .fad 10 (.t 15), (some (154, true)), 0⟩,
    ⟨(some 156), .ld none (.t 155), (some (154, true)), 0⟩,
    ⟨(some 157), .bin .eql (.t 156) (.c (.p (.o (.int .i64 (-1))))), (some (154, true)), 0⟩,
    ⟨(some 158), .pick (.t 154) (.t 157) (.c (.p (.o (.bool false)))), none, 0⟩,
    ⟨(some 159), .mv (.t 158), none, 0⟩,
    ⟨(some 160), .fad 11 (.t 15), (some (159, true)), 0⟩,
    ⟨(some 161), .ld none (.t 160), (some (159, true)), 0⟩,
    ⟨(some 162), .fad 11 (.t 4), (some (159, true)), 0⟩,
    ⟨(some 163), .ld none (.t 162), (some (159, true)), 0⟩,
    ⟨(some 164), .bin .eql (.t 161) (.t 163), (some (159, true)), 0⟩,
    ⟨(some 165), .pick (.t 159) (.t 164) (.c (.p (.o (.bool false)))), none, 0⟩,
    ⟨(some 166), .mv (.t 165), none, 0⟩,
    ⟨(some 167), .call 35 [] 0, (some (166, true)), 0⟩,
    ⟨(some 168), .pick (.t 166) (.t 167) (.c (.p (.o (.bool false)))), none, 0⟩,
    ⟨(some 8), .mv (.t 168), none, 0⟩] 0 none) .ret)))))))))))))))),
  [.tmp 8], 169, [0, 1, 2, 3, 4, 8, 9, 10, 11, 12, 13, 14, 15, 16]⟩
theorem ok_law16_TcpOptions : cFn Try.prog eqsT newsT vf_law16_TcpOptions.keep Try.f12 = some vf_law16_TcpOptions := by kernel_rfl
def Tr (P : ByteArray) (ms sc : Int) : Prop := ∀ b, optS (P ++ b) 0 (-1) = optS b ms sc
theorem Tr.one {P : ByteArray} {ms sc : Int} (h : Tr P ms sc) : Tr (P ++ ⟨#[1]⟩) ms sc := fun b => by rw [app_assoc, h, optS_one]
theorem Tr.out {P : ByteArray} {ms sc : Int} (h : Tr P ms sc) : optS P 0 (-1) = (ms, sc, 0) := by have := h ⟨#[]⟩; rwa [app_nil, optS_nil] at this
theorem two_list (a b : UInt8) : (ByteArray.mk #[a, b]).data.toList = [a, b] := rfl
theorem m_ms (ms s : Int) (r : ByteArray) (h : 0 ≤ ms ∧ ms ≤ 65535) : optS (⟨#[2, 4]⟩ ++ (⟨#[UInt8.ofNat (IntKind.u8.wrap (ms.fdiv (2 ^ min (Int.toNat 8) IntKind.u16.bits))).toNat, UInt8.ofNat (IntKind.u8.wrap ms).toNat]⟩ ++ r)) 0 s = optS r ms s := by
  rw [← app_assoc]
  have hl : ((⟨#[2, 4]⟩ : ByteArray) ++ ⟨#[UInt8.ofNat (IntKind.u8.wrap (ms.fdiv (2 ^ min (Int.toNat 8) IntKind.u16.bits))).toNat, UInt8.ofNat (IntKind.u8.wrap ms).toNat]⟩).data.toList = [2, 4, UInt8.ofNat (ms / 256 % 256).toNat, UInt8.ofNat (ms % 256).toNat] := by
    rw [Sp.append_toList, shr_u16_8, IntKind.wrap_u8, IntKind.wrap_u8]; rfl
  refine optS_ms _ _ 0 s ms (by rw [ByteArray.size_append]; rfl) (bAt_left _ _ _ (by decide)) (bAt_left _ _ _ (by decide)) ?_
  rw [n2_b _ _ (by omega) (by rw [ByteArray.size_append]; exact (by decide : (2 : Int) + 2 ≤ ((2 + 2 : Nat) : Int))), bAt_list hl, bAt_list hl]
  simp only [show (2 : Int).toNat = 2 from rfl, show ((2 : Int) + 1).toNat = 3 from rfl, List.getElem?_cons_zero, List.getElem?_cons_succ, Option.getD_some, u8m]; omega
theorem m_sc (sc m : Int) (r : ByteArray) (h : 0 ≤ sc ∧ sc ≤ 14) : optS (⟨#[3, 3]⟩ ++ (⟨#[UInt8.ofNat sc.toNat]⟩ ++ r)) m (-1) = optS r m sc := by
  rw [← app_assoc]
  have hl : ((⟨#[3, 3]⟩ : ByteArray) ++ ⟨#[UInt8.ofNat sc.toNat]⟩).data.toList = [3, 3, UInt8.ofNat sc.toNat] := by rw [Sp.append_toList]; rfl
  refine optS_sc _ _ m (-1) sc (by rw [ByteArray.size_append]; rfl) (bAt_left _ _ _ (by decide)) (bAt_left _ _ _ (by decide)) ?_
  rw [bAt_list hl]
  simp only [show Int.toNat 2 = 2 from rfl, List.getElem?_cons_zero, List.getElem?_cons_succ, Option.getD_some]
  rw [u8i _ (by omega)]; omega
theorem m_more (kind : Int) (data r : ByteArray) (m s : Int) (hk : 2 ≤ kind ∧ kind ≤ 255) (hdz : (data.size : Int) ≤ 20) (h2 : ¬ (kind = 2 ∧ (data.size : Int) = 2)) (h3 : ¬ (kind = 3 ∧ (data.size : Int) = 1)) :
    optS (⟨#[UInt8.ofNat kind.toNat, UInt8.ofNat ((data.size : Int) + 2).toNat]⟩ ++ (data ++ r)) m s = optS r m s := by
  rw [← app_assoc]
  have hz : ((⟨#[UInt8.ofNat kind.toNat, UInt8.ofNat ((data.size : Int) + 2).toNat]⟩ : ByteArray) ++ data).size = 2 + data.size := by rw [ByteArray.size_append]; rfl
  have b0 : bAt ((⟨#[UInt8.ofNat kind.toNat, UInt8.ofNat ((data.size : Int) + 2).toNat]⟩ : ByteArray) ++ data) (Int.toNat 0) = kind := by
    rw [bAt_left _ _ _ (show 0 < 2 by decide)]; exact u8i _ (by omega)
  have b1 : bAt ((⟨#[UInt8.ofNat kind.toNat, UInt8.ofNat ((data.size : Int) + 2).toNat]⟩ : ByteArray) ++ data) (Int.toNat 1) = data.size + 2 := by
    rw [bAt_left _ _ _ (show 1 < 2 by decide)]; exact u8i _ (by omega)
  exact optS_skip _ _ m s (by omega) (by omega) (by omega) (by omega) (by omega) (by omega)
theorem fl2_no (fl : Int) (h : 0 ≤ fl ∧ fl ≤ 63) : (((BitVec.ofInt IntKind.u8.bits fl &&& ~~~(BitVec.ofInt IntKind.u8.bits 2)).toNat : Nat) : Int) ≤ 63 ∧ flag (((BitVec.ofInt IntKind.u8.bits fl &&& ~~~(BitVec.ofInt IntKind.u8.bits 2)).toNat : Nat) : Int) 2 = false := by
  obtain ⟨k, rfl⟩ := Int.eq_ofNat_of_zero_le h.1
  have key : ∀ k : Nat, k < 64 → ((((BitVec.ofInt IntKind.u8.bits (k : Int) &&& ~~~(BitVec.ofInt IntKind.u8.bits 2)).toNat : Nat) : Int) ≤ 63 ∧ flag (((BitVec.ofInt IntKind.u8.bits (k : Int) &&& ~~~(BitVec.ofInt IntKind.u8.bits 2)).toNat : Nat) : Int) 2 = false) := by decide +kernel
  exact key k (by omega)
theorem own_opts (x p y q sq ac fl wi ur ms sc : Int) (o d : ByteArray) (hx : 0 ≤ x ∧ x ≤ 4294967295) (hp : 0 ≤ p ∧ p ≤ 65535) (hy : 0 ≤ y ∧ y ≤ 4294967295) (hq : 0 ≤ q ∧ q ≤ 65535) (hsq : 0 ≤ sq ∧ sq ≤ 4294967295) (hac : 0 ≤ ac ∧ ac ≤ 4294967295) (hfl : 0 ≤ fl ∧ fl ≤ 255) (hwi : 0 ≤ wi ∧ wi ≤ 65535) (hur : 0 ≤ ur ∧ ur ≤ 65535) (hms : 0 ≤ ms ∧ ms ≤ 65535) (hsc : -9223372036854775808 ≤ sc ∧ sc ≤ 9223372036854775807) (hd : (d.size : Int) ≤ 1024) (hm : may fl ms sc = true) (ho : optS o 0 (-1) = (ms, sc, 0)) (hz : (o.size : Int) ≤ 40) (h4 : o.size % 4 = 0) :
    Det Try.prog 38 [.o (.int .u32 x), .o (.int .u32 y), .o (.str (raw16 x p y q sq ac fl wi ur o d))] [] (.t [.a (seg x p y q sq ac fl wi ur ms sc d), .o (.int .i64 0)]) [] ∧ Det Try.prog 38 [.o (.int .u32 x), .o (.int .u32 y), .o (.str (raw16 x p y q sq ac (((BitVec.ofInt IntKind.u8.bits fl &&& ~~~(BitVec.ofInt IntKind.u8.bits 2)).toNat : Nat) : Int) wi ur o d))] [] (.t [.a (seg x p y q sq ac (((BitVec.ofInt IntKind.u8.bits fl &&& ~~~(BitVec.ofInt IntKind.u8.bits 2)).toNat : Nat) : Int) wi ur 0 (-1) d), .o (.int .i64 0)]) [] := by
  have hmb := may_bd hm
  have D1 := tdec_det x y (raw16 x p y q sq ac fl wi ur o d) (by rw [raw16_size]; omega) hx hy
  have h1 := dec_raw (x := x) (y := y) (Rm := ms) (Rs := sc) (says16 x p y q sq ac fl wi ur o d hp hq hsq hac hfl hwi hur (by omega) h4) (right_raw ..) ⟨hfl.1, hmb.1⟩ ho
  have f2 := fl2_no fl ⟨hfl.1, hmb.1⟩
  have D2 := tdec_det x y (raw16 x p y q sq ac (((BitVec.ofInt IntKind.u8.bits fl &&& ~~~(BitVec.ofInt IntKind.u8.bits 2)).toNat : Nat) : Int) wi ur o d) (by rw [raw16_size]; omega) hx hy
  have h2 := dec_raw (x := x) (y := y) (Rm := ms) (Rs := sc) (says16 x p y q sq ac (((BitVec.ofInt IntKind.u8.bits fl &&& ~~~(BitVec.ofInt IntKind.u8.bits 2)).toNat : Nat) : Int) wi ur o d hp hq hsq hac (bv8_bd _) hwi hur (by omega) h4) (right_raw ..) ⟨(bv8_bd _).1, f2.1⟩ ho
  rw [h2.1, h2.2, if_neg (by rw [f2.2]; simp), if_neg (by rw [f2.2]; simp)] at D2
  rw [h1.1, h1.2] at D1
  refine ⟨?_, D2⟩
  have e : flag fl 2 = true ∨ (ms = 0 ∧ sc = -1) := by simp only [may, Bool.and_eq_true, Bool.or_eq_true, decide_eq_true_eq, beq_iff_eq] at hm; exact hm.2.1
  rcases e with e | ⟨rfl, rfl⟩
  · rw [if_pos e, if_pos e] at D1; exact D1
  · have e1 : (if flag fl 2 = true then (0 : Int) else 0) = 0 := by split <;> rfl
    have e2 : (if flag fl 2 = true then (-1 : Int) else -1) = -1 := by split <;> rfl
    rw [e1, e2] at D1; exact D1
set_option maxHeartbeats 10000000 in
theorem options_true (x p y q sq ac fl wi ur ms sc : Int) (d : ByteArray) (kind : Int) (data : ByteArray) (hx : 0 ≤ x ∧ x ≤ 4294967295) (hp : 0 ≤ p ∧ p ≤ 65535) (hy : 0 ≤ y ∧ y ≤ 4294967295) (hq : 0 ≤ q ∧ q ≤ 65535) (hsq : 0 ≤ sq ∧ sq ≤ 4294967295) (hac : 0 ≤ ac ∧ ac ≤ 4294967295) (hfl : 0 ≤ fl ∧ fl ≤ 255) (hwi : 0 ≤ wi ∧ wi ≤ 65535) (hur : 0 ≤ ur ∧ ur ≤ 65535) (hms : 0 ≤ ms ∧ ms ≤ 65535) (hsc : -9223372036854775808 ≤ sc ∧ sc ≤ 9223372036854775807) (hd : (d.size : Int) ≤ 1024) (hdz : (data.size : Int) ≤ 20) (hk : 2 ≤ kind ∧ kind ≤ 255) (h2 : ¬ (kind = 2 ∧ (data.size : Int) = 2)) (h3 : ¬ (kind = 3 ∧ (data.size : Int) = 1)) (hm : may fl ms sc = true) :
    Can Try.prog 12 [.a (seg x p y q sq ac fl wi ur ms sc d), .o (.int .u8 kind), .o (.str data), .o (.bool true)] [] (fun v _ => v = vB true) := by
  have hmb := may_bd hm
  have M := may_det x p y q sq ac fl wi ur ms sc d
  rw [hm] at M
  refine can_of_W known mix Try.func12 (by kernel_rfl) ok_law16_TcpOptions (Nat.le_of_ble_eq_true rfl) ?_
  repeat' ((conv => whnf); first
    | ((with_reducible refine Look.mk ?_); refine ⟨_, rfl, ?_⟩)
    | ((with_reducible refine LookN.zeros ?_))
    | ((with_reducible refine LookN.bytes ?_ ?_); (simp; done))
    | ((with_reducible refine BytesW.bytes ?_))
    | ((with_reducible refine Look.byte ?_ ?_); omega)
    | ((with_reducible refine Look.setb ?_ ?_ ?_); exact bv8_bd _; omega)
    | ((with_reducible refine LookN.setb ?_ ?_ ?_); exact bv8_bd _; omega)
    | ((with_reducible refine LookN.mk ?_); refine ⟨_, rfl, ?_⟩)
    | ((with_reducible refine Need.mk ?_ ?_); first | ((with_reducible refine needB ?_); kernel_rfl) | exact rfl | trivial | omega | exact Nat.le_of_ble_eq_true rfl | (exact ⟨rfl, by omega⟩) | (intro h; first | rfl | cases h) | (simp only [lenS_text, lenS_setN, lenS_zeros]; omega) | (simp only [ByteArray.size_append, size_lit, List.size_toArray, List.length_cons, List.length_nil, Sp.ofB_size, Sp.headB_size]; omega))
    | ((with_reducible refine BytesW.mk ?_); refine ⟨_, rfl, ?_⟩)
    | (with_reducible refine CallW.det (M) ?_)
    | (with_reducible refine CallW.det (alive_det) ?_)
    | ((with_reducible refine Test.empty (fun h => ?_) (fun h => ?_)))
    | (with_reducible refine Test.tt ?_)
    | (with_reducible refine Test.ff ?_)
    | ((with_reducible refine Test.dt ?_ ?_); omega)
    | ((with_reducible refine Test.df ?_ ?_); omega)
    | (with_reducible refine Test.d (fun h => ?_) (fun h => ?_))
    | ((with_reducible refine Test.ieT ?_ ?_); omega)
    | ((with_reducible refine Test.ieF ?_ ?_); omega)
    | ((with_reducible refine Test.neT ?_ ?_); omega)
    | ((with_reducible refine Test.neF ?_ ?_); omega)
    | (with_reducible refine Test.ie (fun h => ?_) (fun h => ?_))
    | (with_reducible refine Test.ne (fun h => ?_) (fun h => ?_))
    | ((with_reducible refine Test.b ?_ ?_); (focus first | assumption | (simp [negB]; done) | exact rfl))
    | ((with_reducible refine Test.nb ?_ ?_); (focus first | assumption | (simp [negB]; done) | exact rfl))
    | (with_reducible refine Test.mk (fun h => ?_) (fun h => ?_))
    | (with_reducible refine Arith.bv8 ?_)
    | (with_reducible refine Arith.bv16 ?_)
    | (with_reducible refine Arith.bv32 ?_)
    | (with_reducible refine Arith.bv64 ?_)
    | ((with_reducible refine Arith.i64 ?_ ?_); omega)
    | ((with_reducible refine Arith.u64 ?_ ?_); omega)
    | ((with_reducible refine Arith.u32 ?_ ?_); omega)
    | ((with_reducible refine Arith.u16 ?_ ?_); omega)
    | ((with_reducible refine Arith.u8 ?_ ?_); omega)
    | ((with_reducible refine Arith.i32 ?_ ?_); omega)
    | ((with_reducible refine Arith.i64 ?_ ?_); simp (discharger := omega) only [Int.tdiv_eq_ediv_of_nonneg, shr_u8_4, shl_u8_4, shr_u16_4, shl_u16_4, shr_u16_8, shl_u16_8, shr_u32_4, shl_u32_4, shr_u32_8, shl_u32_8, shr_u32_16, shl_u32_16, shr_u32_24, shl_u32_24, shr_u64_4, shl_u64_4, shr_u64_8, shl_u64_8, shr_u64_16, shl_u64_16, shr_u64_24, shl_u64_24, shr_u64_40, shl_u64_40, shr_i64_4, shl_i64_4, shr_i64_8, shl_i64_8, shr_i64_16, shl_i64_16, shr_i64_24, shl_i64_24, shr_i64_40, shl_i64_40]; omega)
    | ((with_reducible refine Arith.u64 ?_ ?_); simp (discharger := omega) only [Int.tdiv_eq_ediv_of_nonneg, shr_u8_4, shl_u8_4, shr_u16_4, shl_u16_4, shr_u16_8, shl_u16_8, shr_u32_4, shl_u32_4, shr_u32_8, shl_u32_8, shr_u32_16, shl_u32_16, shr_u32_24, shl_u32_24, shr_u64_4, shl_u64_4, shr_u64_8, shl_u64_8, shr_u64_16, shl_u64_16, shr_u64_24, shl_u64_24, shr_u64_40, shl_u64_40, shr_i64_4, shl_i64_4, shr_i64_8, shl_i64_8, shr_i64_16, shl_i64_16, shr_i64_24, shl_i64_24, shr_i64_40, shl_i64_40]; omega)
    | ((with_reducible refine Arith.u32 ?_ ?_); simp (discharger := omega) only [Int.tdiv_eq_ediv_of_nonneg, shr_u8_4, shl_u8_4, shr_u16_4, shl_u16_4, shr_u16_8, shl_u16_8, shr_u32_4, shl_u32_4, shr_u32_8, shl_u32_8, shr_u32_16, shl_u32_16, shr_u32_24, shl_u32_24, shr_u64_4, shl_u64_4, shr_u64_8, shl_u64_8, shr_u64_16, shl_u64_16, shr_u64_24, shl_u64_24, shr_u64_40, shl_u64_40, shr_i64_4, shl_i64_4, shr_i64_8, shl_i64_8, shr_i64_16, shl_i64_16, shr_i64_24, shl_i64_24, shr_i64_40, shl_i64_40]; omega)
    | ((with_reducible refine Arith.u16 ?_ ?_); simp (discharger := omega) only [Int.tdiv_eq_ediv_of_nonneg, shr_u8_4, shl_u8_4, shr_u16_4, shl_u16_4, shr_u16_8, shl_u16_8, shr_u32_4, shl_u32_4, shr_u32_8, shl_u32_8, shr_u32_16, shl_u32_16, shr_u32_24, shl_u32_24, shr_u64_4, shl_u64_4, shr_u64_8, shl_u64_8, shr_u64_16, shl_u64_16, shr_u64_24, shl_u64_24, shr_u64_40, shl_u64_40, shr_i64_4, shl_i64_4, shr_i64_8, shl_i64_8, shr_i64_16, shl_i64_16, shr_i64_24, shl_i64_24, shr_i64_40, shl_i64_40]; omega)
    | ((with_reducible refine Arith.u8 ?_ ?_); simp (discharger := omega) only [Int.tdiv_eq_ediv_of_nonneg, shr_u8_4, shl_u8_4, shr_u16_4, shl_u16_4, shr_u16_8, shl_u16_8, shr_u32_4, shl_u32_4, shr_u32_8, shl_u32_8, shr_u32_16, shl_u32_16, shr_u32_24, shl_u32_24, shr_u64_4, shl_u64_4, shr_u64_8, shl_u64_8, shr_u64_16, shl_u64_16, shr_u64_24, shl_u64_24, shr_u64_40, shl_u64_40, shr_i64_4, shl_i64_4, shr_i64_8, shl_i64_8, shr_i64_16, shl_i64_16, shr_i64_24, shl_i64_24, shr_i64_40, shl_i64_40]; omega)
    | (with_reducible refine Arith.mk ?_)
    | (with_reducible refine Ends.mk ?_))
  all_goals refine LoopW.rule (fun n sl M => ∃ w m P, sl = [(0, V.p (PV.a (seg x p y q sq ac fl wi ur ms sc d))), (1, V.p (PV.o (SV.int IntKind.u8 kind))), (2, V.p (PV.o (SV.str data))), (3, V.p (PV.o (SV.bool true))), (4, vO (SV.ptr 0 0)), (8, V.p (PV.o (SV.bool false))), (9, vS w), (10, vS m), (11, vS P)] ∧ M = [.row true false (seg x p y q sq ac fl wi ur ms sc d)] ∧ Tr P ms sc ∧ n = (4 - P.size % 4) % 4 ∧ P.size + n ≤ 50) ?_ _ ⟨_, _, _, rfl, rfl, (by intro b; simp only [app_assoc, nil_app]; simp (discharger := first | assumption | omega) only [m_more, m_ms, m_sc, optS_one]; try (congr 1 <;> omega)), rfl, (by simp only [ByteArray.size_append, size_lit, List.size_toArray, List.length_cons, List.length_nil]; omega)⟩
  all_goals rintro n sl M' ⟨w, m, P, rfl, rfl, hTr, hn, hz⟩ X hX
  all_goals have hT : (P.size : Int).tmod 4 = (P.size : Int) % 4 := Int.tmod_eq_emod_of_nonneg (by omega)
  all_goals repeat' ((conv => whnf); first
    | ((with_reducible refine Look.mk ?_); refine ⟨_, rfl, ?_⟩)
    | ((with_reducible refine LookN.zeros ?_))
    | ((with_reducible refine LookN.bytes ?_ ?_); (simp; done))
    | ((with_reducible refine BytesW.bytes ?_))
    | ((with_reducible refine Look.byte ?_ ?_); omega)
    | ((with_reducible refine Look.setb ?_ ?_ ?_); exact bv8_bd _; omega)
    | ((with_reducible refine LookN.setb ?_ ?_ ?_); exact bv8_bd _; omega)
    | ((with_reducible refine LookN.mk ?_); refine ⟨_, rfl, ?_⟩)
    | ((with_reducible refine Need.mk ?_ ?_); first | ((with_reducible refine needB ?_); kernel_rfl) | exact rfl | trivial | omega | exact Nat.le_of_ble_eq_true rfl | (exact ⟨rfl, by omega⟩) | (intro h; first | rfl | cases h) | (simp only [lenS_text, lenS_setN, lenS_zeros]; omega) | (simp only [ByteArray.size_append, size_lit, List.size_toArray, List.length_cons, List.length_nil, Sp.ofB_size, Sp.headB_size]; omega))
    | ((with_reducible refine BytesW.mk ?_); refine ⟨_, rfl, ?_⟩)
    | (with_reducible refine CallW.det (M) ?_)
    | (with_reducible refine CallW.det (alive_det) ?_)
    | (with_reducible refine CallW.det (raw_det x p y q sq ac fl wi ur ms sc _ d hx hp hy hq hsq hac hfl hwi hur hms hsc (by omega) (by omega)) ?_)
    | (with_reducible refine CallW.det (raw_det x p y q sq ac (((BitVec.ofInt IntKind.u8.bits fl &&& ~~~(BitVec.ofInt IntKind.u8.bits 2)).toNat : Nat) : Int) wi ur ms sc _ d hx hp hy hq hsq hac (bv8_bd _) hwi hur hms hsc (by omega) (by omega)) ?_)
    | (with_reducible refine CallW.det ((own_opts x p y q sq ac fl wi ur ms sc _ d hx hp hy hq hsq hac hfl hwi hur hms hsc hd hm hTr.out (by omega) (by omega)).1) ?_)
    | (with_reducible refine CallW.det ((own_opts x p y q sq ac fl wi ur ms sc _ d hx hp hy hq hsq hac hfl hwi hur hms hsc hd hm hTr.out (by omega) (by omega)).2) ?_)
    | (refine hX ((4 - (P ++ ⟨#[1]⟩).size % 4) % 4) (by rw [ByteArray.size_append, show (ByteArray.mk #[1]).size = 1 from rfl]; omega) _ _ ⟨_, _, _, rfl, rfl, hTr.one, rfl, (by rw [ByteArray.size_append, show (ByteArray.mk #[1]).size = 1 from rfl]; omega)⟩)
    | ((with_reducible refine Test.empty (fun h => ?_) (fun h => ?_)))
    | (with_reducible refine Test.tt ?_)
    | (with_reducible refine Test.ff ?_)
    | ((with_reducible refine Test.dt ?_ ?_); omega)
    | ((with_reducible refine Test.df ?_ ?_); omega)
    | (with_reducible refine Test.d (fun h => ?_) (fun h => ?_))
    | ((with_reducible refine Test.ieT ?_ ?_); omega)
    | ((with_reducible refine Test.ieF ?_ ?_); omega)
    | ((with_reducible refine Test.neT ?_ ?_); omega)
    | ((with_reducible refine Test.neF ?_ ?_); omega)
    | (with_reducible refine Test.ie (fun h => ?_) (fun h => ?_))
    | (with_reducible refine Test.ne (fun h => ?_) (fun h => ?_))
    | ((with_reducible refine Test.b ?_ ?_); (focus first | assumption | (simp [negB]; done) | exact rfl))
    | ((with_reducible refine Test.nb ?_ ?_); (focus first | assumption | (simp [negB]; done) | exact rfl))
    | (with_reducible refine Test.mk (fun h => ?_) (fun h => ?_))
    | (with_reducible refine Arith.bv8 ?_)
    | (with_reducible refine Arith.bv16 ?_)
    | (with_reducible refine Arith.bv32 ?_)
    | (with_reducible refine Arith.bv64 ?_)
    | ((with_reducible refine Arith.i64 ?_ ?_); omega)
    | ((with_reducible refine Arith.u64 ?_ ?_); omega)
    | ((with_reducible refine Arith.u32 ?_ ?_); omega)
    | ((with_reducible refine Arith.u16 ?_ ?_); omega)
    | ((with_reducible refine Arith.u8 ?_ ?_); omega)
    | ((with_reducible refine Arith.i32 ?_ ?_); omega)
    | ((with_reducible refine Arith.i64 ?_ ?_); simp (discharger := omega) only [Int.tdiv_eq_ediv_of_nonneg, shr_u8_4, shl_u8_4, shr_u16_4, shl_u16_4, shr_u16_8, shl_u16_8, shr_u32_4, shl_u32_4, shr_u32_8, shl_u32_8, shr_u32_16, shl_u32_16, shr_u32_24, shl_u32_24, shr_u64_4, shl_u64_4, shr_u64_8, shl_u64_8, shr_u64_16, shl_u64_16, shr_u64_24, shl_u64_24, shr_u64_40, shl_u64_40, shr_i64_4, shl_i64_4, shr_i64_8, shl_i64_8, shr_i64_16, shl_i64_16, shr_i64_24, shl_i64_24, shr_i64_40, shl_i64_40]; omega)
    | ((with_reducible refine Arith.u64 ?_ ?_); simp (discharger := omega) only [Int.tdiv_eq_ediv_of_nonneg, shr_u8_4, shl_u8_4, shr_u16_4, shl_u16_4, shr_u16_8, shl_u16_8, shr_u32_4, shl_u32_4, shr_u32_8, shl_u32_8, shr_u32_16, shl_u32_16, shr_u32_24, shl_u32_24, shr_u64_4, shl_u64_4, shr_u64_8, shl_u64_8, shr_u64_16, shl_u64_16, shr_u64_24, shl_u64_24, shr_u64_40, shl_u64_40, shr_i64_4, shl_i64_4, shr_i64_8, shl_i64_8, shr_i64_16, shl_i64_16, shr_i64_24, shl_i64_24, shr_i64_40, shl_i64_40]; omega)
    | ((with_reducible refine Arith.u32 ?_ ?_); simp (discharger := omega) only [Int.tdiv_eq_ediv_of_nonneg, shr_u8_4, shl_u8_4, shr_u16_4, shl_u16_4, shr_u16_8, shl_u16_8, shr_u32_4, shl_u32_4, shr_u32_8, shl_u32_8, shr_u32_16, shl_u32_16, shr_u32_24, shl_u32_24, shr_u64_4, shl_u64_4, shr_u64_8, shl_u64_8, shr_u64_16, shl_u64_16, shr_u64_24, shl_u64_24, shr_u64_40, shl_u64_40, shr_i64_4, shl_i64_4, shr_i64_8, shl_i64_8, shr_i64_16, shl_i64_16, shr_i64_24, shl_i64_24, shr_i64_40, shl_i64_40]; omega)
    | ((with_reducible refine Arith.u16 ?_ ?_); simp (discharger := omega) only [Int.tdiv_eq_ediv_of_nonneg, shr_u8_4, shl_u8_4, shr_u16_4, shl_u16_4, shr_u16_8, shl_u16_8, shr_u32_4, shl_u32_4, shr_u32_8, shl_u32_8, shr_u32_16, shl_u32_16, shr_u32_24, shl_u32_24, shr_u64_4, shl_u64_4, shr_u64_8, shl_u64_8, shr_u64_16, shl_u64_16, shr_u64_24, shl_u64_24, shr_u64_40, shl_u64_40, shr_i64_4, shl_i64_4, shr_i64_8, shl_i64_8, shr_i64_16, shl_i64_16, shr_i64_24, shl_i64_24, shr_i64_40, shl_i64_40]; omega)
    | ((with_reducible refine Arith.u8 ?_ ?_); simp (discharger := omega) only [Int.tdiv_eq_ediv_of_nonneg, shr_u8_4, shl_u8_4, shr_u16_4, shl_u16_4, shr_u16_8, shl_u16_8, shr_u32_4, shl_u32_4, shr_u32_8, shl_u32_8, shr_u32_16, shl_u32_16, shr_u32_24, shl_u32_24, shr_u64_4, shl_u64_4, shr_u64_8, shl_u64_8, shr_u64_16, shl_u64_16, shr_u64_24, shl_u64_24, shr_u64_40, shl_u64_40, shr_i64_4, shl_i64_4, shr_i64_8, shl_i64_8, shr_i64_16, shl_i64_16, shr_i64_24, shl_i64_24, shr_i64_40, shl_i64_40]; omega)
    | (with_reducible refine Arith.mk ?_)
    | (with_reducible refine Ends.mk ?_))
  all_goals rfl
set_option maxHeartbeats 10000000 in
theorem options_false (x p y q sq ac fl wi ur ms sc : Int) (d : ByteArray) (kind : Int) (data : ByteArray) (hx : 0 ≤ x ∧ x ≤ 4294967295) (hp : 0 ≤ p ∧ p ≤ 65535) (hy : 0 ≤ y ∧ y ≤ 4294967295) (hq : 0 ≤ q ∧ q ≤ 65535) (hsq : 0 ≤ sq ∧ sq ≤ 4294967295) (hac : 0 ≤ ac ∧ ac ≤ 4294967295) (hfl : 0 ≤ fl ∧ fl ≤ 255) (hwi : 0 ≤ wi ∧ wi ≤ 65535) (hur : 0 ≤ ur ∧ ur ≤ 65535) (hms : 0 ≤ ms ∧ ms ≤ 65535) (hsc : -9223372036854775808 ≤ sc ∧ sc ≤ 9223372036854775807) (hd : (d.size : Int) ≤ 1024) (hdz : (data.size : Int) ≤ 20) (hk : 2 ≤ kind ∧ kind ≤ 255) (h2 : ¬ (kind = 2 ∧ (data.size : Int) = 2)) (h3 : ¬ (kind = 3 ∧ (data.size : Int) = 1)) (hm : may fl ms sc = true) :
    Can Try.prog 12 [.a (seg x p y q sq ac fl wi ur ms sc d), .o (.int .u8 kind), .o (.str data), .o (.bool false)] [] (fun v _ => v = vB true) := by
  have hmb := may_bd hm
  have M := may_det x p y q sq ac fl wi ur ms sc d
  rw [hm] at M
  refine can_of_W known mix Try.func12 (by kernel_rfl) ok_law16_TcpOptions (Nat.le_of_ble_eq_true rfl) ?_
  repeat' ((conv => whnf); first
    | ((with_reducible refine Look.mk ?_); refine ⟨_, rfl, ?_⟩)
    | ((with_reducible refine LookN.zeros ?_))
    | ((with_reducible refine LookN.bytes ?_ ?_); (simp; done))
    | ((with_reducible refine BytesW.bytes ?_))
    | ((with_reducible refine Look.byte ?_ ?_); omega)
    | ((with_reducible refine Look.setb ?_ ?_ ?_); exact bv8_bd _; omega)
    | ((with_reducible refine LookN.setb ?_ ?_ ?_); exact bv8_bd _; omega)
    | ((with_reducible refine LookN.mk ?_); refine ⟨_, rfl, ?_⟩)
    | ((with_reducible refine Need.mk ?_ ?_); first | ((with_reducible refine needB ?_); kernel_rfl) | exact rfl | trivial | omega | exact Nat.le_of_ble_eq_true rfl | (exact ⟨rfl, by omega⟩) | (intro h; first | rfl | cases h) | (simp only [lenS_text, lenS_setN, lenS_zeros]; omega) | (simp only [ByteArray.size_append, size_lit, List.size_toArray, List.length_cons, List.length_nil, Sp.ofB_size, Sp.headB_size]; omega))
    | ((with_reducible refine BytesW.mk ?_); refine ⟨_, rfl, ?_⟩)
    | (with_reducible refine CallW.det (M) ?_)
    | (with_reducible refine CallW.det (alive_det) ?_)
    | ((with_reducible refine Test.empty (fun h => ?_) (fun h => ?_)))
    | (with_reducible refine Test.tt ?_)
    | (with_reducible refine Test.ff ?_)
    | ((with_reducible refine Test.dt ?_ ?_); omega)
    | ((with_reducible refine Test.df ?_ ?_); omega)
    | (with_reducible refine Test.d (fun h => ?_) (fun h => ?_))
    | ((with_reducible refine Test.ieT ?_ ?_); omega)
    | ((with_reducible refine Test.ieF ?_ ?_); omega)
    | ((with_reducible refine Test.neT ?_ ?_); omega)
    | ((with_reducible refine Test.neF ?_ ?_); omega)
    | (with_reducible refine Test.ie (fun h => ?_) (fun h => ?_))
    | (with_reducible refine Test.ne (fun h => ?_) (fun h => ?_))
    | ((with_reducible refine Test.b ?_ ?_); (focus first | assumption | (simp [negB]; done) | exact rfl))
    | ((with_reducible refine Test.nb ?_ ?_); (focus first | assumption | (simp [negB]; done) | exact rfl))
    | (with_reducible refine Test.mk (fun h => ?_) (fun h => ?_))
    | (with_reducible refine Arith.bv8 ?_)
    | (with_reducible refine Arith.bv16 ?_)
    | (with_reducible refine Arith.bv32 ?_)
    | (with_reducible refine Arith.bv64 ?_)
    | ((with_reducible refine Arith.i64 ?_ ?_); omega)
    | ((with_reducible refine Arith.u64 ?_ ?_); omega)
    | ((with_reducible refine Arith.u32 ?_ ?_); omega)
    | ((with_reducible refine Arith.u16 ?_ ?_); omega)
    | ((with_reducible refine Arith.u8 ?_ ?_); omega)
    | ((with_reducible refine Arith.i32 ?_ ?_); omega)
    | ((with_reducible refine Arith.i64 ?_ ?_); simp (discharger := omega) only [Int.tdiv_eq_ediv_of_nonneg, shr_u8_4, shl_u8_4, shr_u16_4, shl_u16_4, shr_u16_8, shl_u16_8, shr_u32_4, shl_u32_4, shr_u32_8, shl_u32_8, shr_u32_16, shl_u32_16, shr_u32_24, shl_u32_24, shr_u64_4, shl_u64_4, shr_u64_8, shl_u64_8, shr_u64_16, shl_u64_16, shr_u64_24, shl_u64_24, shr_u64_40, shl_u64_40, shr_i64_4, shl_i64_4, shr_i64_8, shl_i64_8, shr_i64_16, shl_i64_16, shr_i64_24, shl_i64_24, shr_i64_40, shl_i64_40]; omega)
    | ((with_reducible refine Arith.u64 ?_ ?_); simp (discharger := omega) only [Int.tdiv_eq_ediv_of_nonneg, shr_u8_4, shl_u8_4, shr_u16_4, shl_u16_4, shr_u16_8, shl_u16_8, shr_u32_4, shl_u32_4, shr_u32_8, shl_u32_8, shr_u32_16, shl_u32_16, shr_u32_24, shl_u32_24, shr_u64_4, shl_u64_4, shr_u64_8, shl_u64_8, shr_u64_16, shl_u64_16, shr_u64_24, shl_u64_24, shr_u64_40, shl_u64_40, shr_i64_4, shl_i64_4, shr_i64_8, shl_i64_8, shr_i64_16, shl_i64_16, shr_i64_24, shl_i64_24, shr_i64_40, shl_i64_40]; omega)
    | ((with_reducible refine Arith.u32 ?_ ?_); simp (discharger := omega) only [Int.tdiv_eq_ediv_of_nonneg, shr_u8_4, shl_u8_4, shr_u16_4, shl_u16_4, shr_u16_8, shl_u16_8, shr_u32_4, shl_u32_4, shr_u32_8, shl_u32_8, shr_u32_16, shl_u32_16, shr_u32_24, shl_u32_24, shr_u64_4, shl_u64_4, shr_u64_8, shl_u64_8, shr_u64_16, shl_u64_16, shr_u64_24, shl_u64_24, shr_u64_40, shl_u64_40, shr_i64_4, shl_i64_4, shr_i64_8, shl_i64_8, shr_i64_16, shl_i64_16, shr_i64_24, shl_i64_24, shr_i64_40, shl_i64_40]; omega)
    | ((with_reducible refine Arith.u16 ?_ ?_); simp (discharger := omega) only [Int.tdiv_eq_ediv_of_nonneg, shr_u8_4, shl_u8_4, shr_u16_4, shl_u16_4, shr_u16_8, shl_u16_8, shr_u32_4, shl_u32_4, shr_u32_8, shl_u32_8, shr_u32_16, shl_u32_16, shr_u32_24, shl_u32_24, shr_u64_4, shl_u64_4, shr_u64_8, shl_u64_8, shr_u64_16, shl_u64_16, shr_u64_24, shl_u64_24, shr_u64_40, shl_u64_40, shr_i64_4, shl_i64_4, shr_i64_8, shl_i64_8, shr_i64_16, shl_i64_16, shr_i64_24, shl_i64_24, shr_i64_40, shl_i64_40]; omega)
    | ((with_reducible refine Arith.u8 ?_ ?_); simp (discharger := omega) only [Int.tdiv_eq_ediv_of_nonneg, shr_u8_4, shl_u8_4, shr_u16_4, shl_u16_4, shr_u16_8, shl_u16_8, shr_u32_4, shl_u32_4, shr_u32_8, shl_u32_8, shr_u32_16, shl_u32_16, shr_u32_24, shl_u32_24, shr_u64_4, shl_u64_4, shr_u64_8, shl_u64_8, shr_u64_16, shl_u64_16, shr_u64_24, shl_u64_24, shr_u64_40, shl_u64_40, shr_i64_4, shl_i64_4, shr_i64_8, shl_i64_8, shr_i64_16, shl_i64_16, shr_i64_24, shl_i64_24, shr_i64_40, shl_i64_40]; omega)
    | (with_reducible refine Arith.mk ?_)
    | (with_reducible refine Ends.mk ?_))
  all_goals refine LoopW.rule (fun n sl M => ∃ w m P, sl = [(0, V.p (PV.a (seg x p y q sq ac fl wi ur ms sc d))), (1, V.p (PV.o (SV.int IntKind.u8 kind))), (2, V.p (PV.o (SV.str data))), (3, V.p (PV.o (SV.bool false))), (4, vO (SV.ptr 0 0)), (8, V.p (PV.o (SV.bool false))), (9, vS w), (10, vS m), (11, vS P)] ∧ M = [.row true false (seg x p y q sq ac fl wi ur ms sc d)] ∧ Tr P ms sc ∧ n = (4 - P.size % 4) % 4 ∧ P.size + n ≤ 50) ?_ _ ⟨_, _, _, rfl, rfl, (by intro b; simp only [app_assoc, nil_app]; simp (discharger := first | assumption | omega) only [m_more, m_ms, m_sc, optS_one]; try (congr 1 <;> omega)), rfl, (by simp only [ByteArray.size_append, size_lit, List.size_toArray, List.length_cons, List.length_nil]; omega)⟩
  all_goals rintro n sl M' ⟨w, m, P, rfl, rfl, hTr, hn, hz⟩ X hX
  all_goals have hT : (P.size : Int).tmod 4 = (P.size : Int) % 4 := Int.tmod_eq_emod_of_nonneg (by omega)
  all_goals repeat' ((conv => whnf); first
    | ((with_reducible refine Look.mk ?_); refine ⟨_, rfl, ?_⟩)
    | ((with_reducible refine LookN.zeros ?_))
    | ((with_reducible refine LookN.bytes ?_ ?_); (simp; done))
    | ((with_reducible refine BytesW.bytes ?_))
    | ((with_reducible refine Look.byte ?_ ?_); omega)
    | ((with_reducible refine Look.setb ?_ ?_ ?_); exact bv8_bd _; omega)
    | ((with_reducible refine LookN.setb ?_ ?_ ?_); exact bv8_bd _; omega)
    | ((with_reducible refine LookN.mk ?_); refine ⟨_, rfl, ?_⟩)
    | ((with_reducible refine Need.mk ?_ ?_); first | ((with_reducible refine needB ?_); kernel_rfl) | exact rfl | trivial | omega | exact Nat.le_of_ble_eq_true rfl | (exact ⟨rfl, by omega⟩) | (intro h; first | rfl | cases h) | (simp only [lenS_text, lenS_setN, lenS_zeros]; omega) | (simp only [ByteArray.size_append, size_lit, List.size_toArray, List.length_cons, List.length_nil, Sp.ofB_size, Sp.headB_size]; omega))
    | ((with_reducible refine BytesW.mk ?_); refine ⟨_, rfl, ?_⟩)
    | (with_reducible refine CallW.det (M) ?_)
    | (with_reducible refine CallW.det (alive_det) ?_)
    | (with_reducible refine CallW.det (raw_det x p y q sq ac fl wi ur ms sc _ d hx hp hy hq hsq hac hfl hwi hur hms hsc (by omega) (by omega)) ?_)
    | (with_reducible refine CallW.det (raw_det x p y q sq ac (((BitVec.ofInt IntKind.u8.bits fl &&& ~~~(BitVec.ofInt IntKind.u8.bits 2)).toNat : Nat) : Int) wi ur ms sc _ d hx hp hy hq hsq hac (bv8_bd _) hwi hur hms hsc (by omega) (by omega)) ?_)
    | (with_reducible refine CallW.det ((own_opts x p y q sq ac fl wi ur ms sc _ d hx hp hy hq hsq hac hfl hwi hur hms hsc hd hm hTr.out (by omega) (by omega)).1) ?_)
    | (with_reducible refine CallW.det ((own_opts x p y q sq ac fl wi ur ms sc _ d hx hp hy hq hsq hac hfl hwi hur hms hsc hd hm hTr.out (by omega) (by omega)).2) ?_)
    | (refine hX ((4 - (P ++ ⟨#[1]⟩).size % 4) % 4) (by rw [ByteArray.size_append, show (ByteArray.mk #[1]).size = 1 from rfl]; omega) _ _ ⟨_, _, _, rfl, rfl, hTr.one, rfl, (by rw [ByteArray.size_append, show (ByteArray.mk #[1]).size = 1 from rfl]; omega)⟩)
    | ((with_reducible refine Test.empty (fun h => ?_) (fun h => ?_)))
    | (with_reducible refine Test.tt ?_)
    | (with_reducible refine Test.ff ?_)
    | ((with_reducible refine Test.dt ?_ ?_); omega)
    | ((with_reducible refine Test.df ?_ ?_); omega)
    | (with_reducible refine Test.d (fun h => ?_) (fun h => ?_))
    | ((with_reducible refine Test.ieT ?_ ?_); omega)
    | ((with_reducible refine Test.ieF ?_ ?_); omega)
    | ((with_reducible refine Test.neT ?_ ?_); omega)
    | ((with_reducible refine Test.neF ?_ ?_); omega)
    | (with_reducible refine Test.ie (fun h => ?_) (fun h => ?_))
    | (with_reducible refine Test.ne (fun h => ?_) (fun h => ?_))
    | ((with_reducible refine Test.b ?_ ?_); (focus first | assumption | (simp [negB]; done) | exact rfl))
    | ((with_reducible refine Test.nb ?_ ?_); (focus first | assumption | (simp [negB]; done) | exact rfl))
    | (with_reducible refine Test.mk (fun h => ?_) (fun h => ?_))
    | (with_reducible refine Arith.bv8 ?_)
    | (with_reducible refine Arith.bv16 ?_)
    | (with_reducible refine Arith.bv32 ?_)
    | (with_reducible refine Arith.bv64 ?_)
    | ((with_reducible refine Arith.i64 ?_ ?_); omega)
    | ((with_reducible refine Arith.u64 ?_ ?_); omega)
    | ((with_reducible refine Arith.u32 ?_ ?_); omega)
    | ((with_reducible refine Arith.u16 ?_ ?_); omega)
    | ((with_reducible refine Arith.u8 ?_ ?_); omega)
    | ((with_reducible refine Arith.i32 ?_ ?_); omega)
    | ((with_reducible refine Arith.i64 ?_ ?_); simp (discharger := omega) only [Int.tdiv_eq_ediv_of_nonneg, shr_u8_4, shl_u8_4, shr_u16_4, shl_u16_4, shr_u16_8, shl_u16_8, shr_u32_4, shl_u32_4, shr_u32_8, shl_u32_8, shr_u32_16, shl_u32_16, shr_u32_24, shl_u32_24, shr_u64_4, shl_u64_4, shr_u64_8, shl_u64_8, shr_u64_16, shl_u64_16, shr_u64_24, shl_u64_24, shr_u64_40, shl_u64_40, shr_i64_4, shl_i64_4, shr_i64_8, shl_i64_8, shr_i64_16, shl_i64_16, shr_i64_24, shl_i64_24, shr_i64_40, shl_i64_40]; omega)
    | ((with_reducible refine Arith.u64 ?_ ?_); simp (discharger := omega) only [Int.tdiv_eq_ediv_of_nonneg, shr_u8_4, shl_u8_4, shr_u16_4, shl_u16_4, shr_u16_8, shl_u16_8, shr_u32_4, shl_u32_4, shr_u32_8, shl_u32_8, shr_u32_16, shl_u32_16, shr_u32_24, shl_u32_24, shr_u64_4, shl_u64_4, shr_u64_8, shl_u64_8, shr_u64_16, shl_u64_16, shr_u64_24, shl_u64_24, shr_u64_40, shl_u64_40, shr_i64_4, shl_i64_4, shr_i64_8, shl_i64_8, shr_i64_16, shl_i64_16, shr_i64_24, shl_i64_24, shr_i64_40, shl_i64_40]; omega)
    | ((with_reducible refine Arith.u32 ?_ ?_); simp (discharger := omega) only [Int.tdiv_eq_ediv_of_nonneg, shr_u8_4, shl_u8_4, shr_u16_4, shl_u16_4, shr_u16_8, shl_u16_8, shr_u32_4, shl_u32_4, shr_u32_8, shl_u32_8, shr_u32_16, shl_u32_16, shr_u32_24, shl_u32_24, shr_u64_4, shl_u64_4, shr_u64_8, shl_u64_8, shr_u64_16, shl_u64_16, shr_u64_24, shl_u64_24, shr_u64_40, shl_u64_40, shr_i64_4, shl_i64_4, shr_i64_8, shl_i64_8, shr_i64_16, shl_i64_16, shr_i64_24, shl_i64_24, shr_i64_40, shl_i64_40]; omega)
    | ((with_reducible refine Arith.u16 ?_ ?_); simp (discharger := omega) only [Int.tdiv_eq_ediv_of_nonneg, shr_u8_4, shl_u8_4, shr_u16_4, shl_u16_4, shr_u16_8, shl_u16_8, shr_u32_4, shl_u32_4, shr_u32_8, shl_u32_8, shr_u32_16, shl_u32_16, shr_u32_24, shl_u32_24, shr_u64_4, shl_u64_4, shr_u64_8, shl_u64_8, shr_u64_16, shl_u64_16, shr_u64_24, shl_u64_24, shr_u64_40, shl_u64_40, shr_i64_4, shl_i64_4, shr_i64_8, shl_i64_8, shr_i64_16, shl_i64_16, shr_i64_24, shl_i64_24, shr_i64_40, shl_i64_40]; omega)
    | ((with_reducible refine Arith.u8 ?_ ?_); simp (discharger := omega) only [Int.tdiv_eq_ediv_of_nonneg, shr_u8_4, shl_u8_4, shr_u16_4, shl_u16_4, shr_u16_8, shl_u16_8, shr_u32_4, shl_u32_4, shr_u32_8, shl_u32_8, shr_u32_16, shl_u32_16, shr_u32_24, shl_u32_24, shr_u64_4, shl_u64_4, shr_u64_8, shl_u64_8, shr_u64_16, shl_u64_16, shr_u64_24, shl_u64_24, shr_u64_40, shl_u64_40, shr_i64_4, shl_i64_4, shr_i64_8, shl_i64_8, shr_i64_16, shl_i64_16, shr_i64_24, shl_i64_24, shr_i64_40, shl_i64_40]; omega)
    | (with_reducible refine Arith.mk ?_)
    | (with_reducible refine Ends.mk ?_))
  all_goals rfl
set_option maxHeartbeats 2000000 in
theorem options_far (x p y q sq ac fl wi ur ms sc : Int) (d : ByteArray) (kind : Int) (data : ByteArray) (first : Bool) (h : ¬ ((d.size : Int) ≤ 1024 ∧ (data.size : Int) ≤ 20 ∧ 2 ≤ kind ∧ ¬ (kind = 2 ∧ (data.size : Int) = 2) ∧ ¬ (kind = 3 ∧ (data.size : Int) = 1) ∧ may fl ms sc = true)) (hk : 0 ≤ kind) :
    Can Try.prog 12 [.a (seg x p y q sq ac fl wi ur ms sc d), .o (.int .u8 kind), .o (.str data), .o (.bool first)] [] (fun v _ => v = vB true) := by
  have M := may_det x p y q sq ac fl wi ur ms sc d
  by_cases c1 : (d.size : Int) ≤ 1024
  · by_cases c2 : (data.size : Int) ≤ 20
    · by_cases c3 : 2 ≤ kind
      · by_cases c4 : kind = 2 ∧ (data.size : Int) = 2
        · refine can_of_W known mix Try.func12 (by kernel_rfl) ok_law16_TcpOptions (Nat.le_of_ble_eq_true rfl) ?_
          repeat' ((conv => whnf); first
    | ((with_reducible refine Look.mk ?_); refine ⟨_, rfl, ?_⟩)
    | ((with_reducible refine LookN.zeros ?_))
    | ((with_reducible refine LookN.bytes ?_ ?_); (simp; done))
    | ((with_reducible refine BytesW.bytes ?_))
    | ((with_reducible refine Look.byte ?_ ?_); omega)
    | ((with_reducible refine Look.setb ?_ ?_ ?_); exact bv8_bd _; omega)
    | ((with_reducible refine LookN.setb ?_ ?_ ?_); exact bv8_bd _; omega)
    | ((with_reducible refine LookN.mk ?_); refine ⟨_, rfl, ?_⟩)
    | ((with_reducible refine Need.mk ?_ ?_); first | ((with_reducible refine needB ?_); kernel_rfl) | exact rfl | trivial | omega | exact Nat.le_of_ble_eq_true rfl | (exact ⟨rfl, by omega⟩) | (intro h; first | rfl | cases h) | (simp only [lenS_text, lenS_setN, lenS_zeros]; omega) | (simp only [ByteArray.size_append, size_lit, List.size_toArray, List.length_cons, List.length_nil, Sp.ofB_size, Sp.headB_size]; omega))
    | ((with_reducible refine BytesW.mk ?_); refine ⟨_, rfl, ?_⟩)
    | (with_reducible refine CallW.det (M) ?_)
    | (with_reducible refine CallW.det (alive_det) ?_)
    | ((with_reducible refine Test.empty (fun h => ?_) (fun h => ?_)))
    | (with_reducible refine Test.tt ?_)
    | (with_reducible refine Test.ff ?_)
    | ((with_reducible refine Test.dt ?_ ?_); omega)
    | ((with_reducible refine Test.df ?_ ?_); omega)
    | (with_reducible refine Test.d (fun h => ?_) (fun h => ?_))
    | ((with_reducible refine Test.ieT ?_ ?_); omega)
    | ((with_reducible refine Test.ieF ?_ ?_); omega)
    | ((with_reducible refine Test.neT ?_ ?_); omega)
    | ((with_reducible refine Test.neF ?_ ?_); omega)
    | (with_reducible refine Test.ie (fun h => ?_) (fun h => ?_))
    | (with_reducible refine Test.ne (fun h => ?_) (fun h => ?_))
    | ((with_reducible refine Test.b ?_ ?_); (focus first | assumption | (simp [negB]; done) | exact rfl))
    | ((with_reducible refine Test.nb ?_ ?_); (focus first | assumption | (simp [negB]; done) | exact rfl))
    | (with_reducible refine Test.mk (fun h => ?_) (fun h => ?_))
    | (with_reducible refine Arith.bv8 ?_)
    | (with_reducible refine Arith.bv16 ?_)
    | (with_reducible refine Arith.bv32 ?_)
    | (with_reducible refine Arith.bv64 ?_)
    | ((with_reducible refine Arith.i64 ?_ ?_); omega)
    | ((with_reducible refine Arith.u64 ?_ ?_); omega)
    | ((with_reducible refine Arith.u32 ?_ ?_); omega)
    | ((with_reducible refine Arith.u16 ?_ ?_); omega)
    | ((with_reducible refine Arith.u8 ?_ ?_); omega)
    | ((with_reducible refine Arith.i32 ?_ ?_); omega)
    | ((with_reducible refine Arith.i64 ?_ ?_); simp (discharger := omega) only [Int.tdiv_eq_ediv_of_nonneg, shr_u8_4, shl_u8_4, shr_u16_4, shl_u16_4, shr_u16_8, shl_u16_8, shr_u32_4, shl_u32_4, shr_u32_8, shl_u32_8, shr_u32_16, shl_u32_16, shr_u32_24, shl_u32_24, shr_u64_4, shl_u64_4, shr_u64_8, shl_u64_8, shr_u64_16, shl_u64_16, shr_u64_24, shl_u64_24, shr_u64_40, shl_u64_40, shr_i64_4, shl_i64_4, shr_i64_8, shl_i64_8, shr_i64_16, shl_i64_16, shr_i64_24, shl_i64_24, shr_i64_40, shl_i64_40]; omega)
    | ((with_reducible refine Arith.u64 ?_ ?_); simp (discharger := omega) only [Int.tdiv_eq_ediv_of_nonneg, shr_u8_4, shl_u8_4, shr_u16_4, shl_u16_4, shr_u16_8, shl_u16_8, shr_u32_4, shl_u32_4, shr_u32_8, shl_u32_8, shr_u32_16, shl_u32_16, shr_u32_24, shl_u32_24, shr_u64_4, shl_u64_4, shr_u64_8, shl_u64_8, shr_u64_16, shl_u64_16, shr_u64_24, shl_u64_24, shr_u64_40, shl_u64_40, shr_i64_4, shl_i64_4, shr_i64_8, shl_i64_8, shr_i64_16, shl_i64_16, shr_i64_24, shl_i64_24, shr_i64_40, shl_i64_40]; omega)
    | ((with_reducible refine Arith.u32 ?_ ?_); simp (discharger := omega) only [Int.tdiv_eq_ediv_of_nonneg, shr_u8_4, shl_u8_4, shr_u16_4, shl_u16_4, shr_u16_8, shl_u16_8, shr_u32_4, shl_u32_4, shr_u32_8, shl_u32_8, shr_u32_16, shl_u32_16, shr_u32_24, shl_u32_24, shr_u64_4, shl_u64_4, shr_u64_8, shl_u64_8, shr_u64_16, shl_u64_16, shr_u64_24, shl_u64_24, shr_u64_40, shl_u64_40, shr_i64_4, shl_i64_4, shr_i64_8, shl_i64_8, shr_i64_16, shl_i64_16, shr_i64_24, shl_i64_24, shr_i64_40, shl_i64_40]; omega)
    | ((with_reducible refine Arith.u16 ?_ ?_); simp (discharger := omega) only [Int.tdiv_eq_ediv_of_nonneg, shr_u8_4, shl_u8_4, shr_u16_4, shl_u16_4, shr_u16_8, shl_u16_8, shr_u32_4, shl_u32_4, shr_u32_8, shl_u32_8, shr_u32_16, shl_u32_16, shr_u32_24, shl_u32_24, shr_u64_4, shl_u64_4, shr_u64_8, shl_u64_8, shr_u64_16, shl_u64_16, shr_u64_24, shl_u64_24, shr_u64_40, shl_u64_40, shr_i64_4, shl_i64_4, shr_i64_8, shl_i64_8, shr_i64_16, shl_i64_16, shr_i64_24, shl_i64_24, shr_i64_40, shl_i64_40]; omega)
    | ((with_reducible refine Arith.u8 ?_ ?_); simp (discharger := omega) only [Int.tdiv_eq_ediv_of_nonneg, shr_u8_4, shl_u8_4, shr_u16_4, shl_u16_4, shr_u16_8, shl_u16_8, shr_u32_4, shl_u32_4, shr_u32_8, shl_u32_8, shr_u32_16, shl_u32_16, shr_u32_24, shl_u32_24, shr_u64_4, shl_u64_4, shr_u64_8, shl_u64_8, shr_u64_16, shl_u64_16, shr_u64_24, shl_u64_24, shr_u64_40, shl_u64_40, shr_i64_4, shl_i64_4, shr_i64_8, shl_i64_8, shr_i64_16, shl_i64_16, shr_i64_24, shl_i64_24, shr_i64_40, shl_i64_40]; omega)
    | (with_reducible refine Arith.mk ?_)
    | (with_reducible refine Ends.mk ?_))
          all_goals rfl
        · by_cases c5 : kind = 3 ∧ (data.size : Int) = 1
          · refine can_of_W known mix Try.func12 (by kernel_rfl) ok_law16_TcpOptions (Nat.le_of_ble_eq_true rfl) ?_
            repeat' ((conv => whnf); first
    | ((with_reducible refine Look.mk ?_); refine ⟨_, rfl, ?_⟩)
    | ((with_reducible refine LookN.zeros ?_))
    | ((with_reducible refine LookN.bytes ?_ ?_); (simp; done))
    | ((with_reducible refine BytesW.bytes ?_))
    | ((with_reducible refine Look.byte ?_ ?_); omega)
    | ((with_reducible refine Look.setb ?_ ?_ ?_); exact bv8_bd _; omega)
    | ((with_reducible refine LookN.setb ?_ ?_ ?_); exact bv8_bd _; omega)
    | ((with_reducible refine LookN.mk ?_); refine ⟨_, rfl, ?_⟩)
    | ((with_reducible refine Need.mk ?_ ?_); first | ((with_reducible refine needB ?_); kernel_rfl) | exact rfl | trivial | omega | exact Nat.le_of_ble_eq_true rfl | (exact ⟨rfl, by omega⟩) | (intro h; first | rfl | cases h) | (simp only [lenS_text, lenS_setN, lenS_zeros]; omega) | (simp only [ByteArray.size_append, size_lit, List.size_toArray, List.length_cons, List.length_nil, Sp.ofB_size, Sp.headB_size]; omega))
    | ((with_reducible refine BytesW.mk ?_); refine ⟨_, rfl, ?_⟩)
    | (with_reducible refine CallW.det (M) ?_)
    | (with_reducible refine CallW.det (alive_det) ?_)
    | ((with_reducible refine Test.empty (fun h => ?_) (fun h => ?_)))
    | (with_reducible refine Test.tt ?_)
    | (with_reducible refine Test.ff ?_)
    | ((with_reducible refine Test.dt ?_ ?_); omega)
    | ((with_reducible refine Test.df ?_ ?_); omega)
    | (with_reducible refine Test.d (fun h => ?_) (fun h => ?_))
    | ((with_reducible refine Test.ieT ?_ ?_); omega)
    | ((with_reducible refine Test.ieF ?_ ?_); omega)
    | ((with_reducible refine Test.neT ?_ ?_); omega)
    | ((with_reducible refine Test.neF ?_ ?_); omega)
    | (with_reducible refine Test.ie (fun h => ?_) (fun h => ?_))
    | (with_reducible refine Test.ne (fun h => ?_) (fun h => ?_))
    | ((with_reducible refine Test.b ?_ ?_); (focus first | assumption | (simp [negB]; done) | exact rfl))
    | ((with_reducible refine Test.nb ?_ ?_); (focus first | assumption | (simp [negB]; done) | exact rfl))
    | (with_reducible refine Test.mk (fun h => ?_) (fun h => ?_))
    | (with_reducible refine Arith.bv8 ?_)
    | (with_reducible refine Arith.bv16 ?_)
    | (with_reducible refine Arith.bv32 ?_)
    | (with_reducible refine Arith.bv64 ?_)
    | ((with_reducible refine Arith.i64 ?_ ?_); omega)
    | ((with_reducible refine Arith.u64 ?_ ?_); omega)
    | ((with_reducible refine Arith.u32 ?_ ?_); omega)
    | ((with_reducible refine Arith.u16 ?_ ?_); omega)
    | ((with_reducible refine Arith.u8 ?_ ?_); omega)
    | ((with_reducible refine Arith.i32 ?_ ?_); omega)
    | ((with_reducible refine Arith.i64 ?_ ?_); simp (discharger := omega) only [Int.tdiv_eq_ediv_of_nonneg, shr_u8_4, shl_u8_4, shr_u16_4, shl_u16_4, shr_u16_8, shl_u16_8, shr_u32_4, shl_u32_4, shr_u32_8, shl_u32_8, shr_u32_16, shl_u32_16, shr_u32_24, shl_u32_24, shr_u64_4, shl_u64_4, shr_u64_8, shl_u64_8, shr_u64_16, shl_u64_16, shr_u64_24, shl_u64_24, shr_u64_40, shl_u64_40, shr_i64_4, shl_i64_4, shr_i64_8, shl_i64_8, shr_i64_16, shl_i64_16, shr_i64_24, shl_i64_24, shr_i64_40, shl_i64_40]; omega)
    | ((with_reducible refine Arith.u64 ?_ ?_); simp (discharger := omega) only [Int.tdiv_eq_ediv_of_nonneg, shr_u8_4, shl_u8_4, shr_u16_4, shl_u16_4, shr_u16_8, shl_u16_8, shr_u32_4, shl_u32_4, shr_u32_8, shl_u32_8, shr_u32_16, shl_u32_16, shr_u32_24, shl_u32_24, shr_u64_4, shl_u64_4, shr_u64_8, shl_u64_8, shr_u64_16, shl_u64_16, shr_u64_24, shl_u64_24, shr_u64_40, shl_u64_40, shr_i64_4, shl_i64_4, shr_i64_8, shl_i64_8, shr_i64_16, shl_i64_16, shr_i64_24, shl_i64_24, shr_i64_40, shl_i64_40]; omega)
    | ((with_reducible refine Arith.u32 ?_ ?_); simp (discharger := omega) only [Int.tdiv_eq_ediv_of_nonneg, shr_u8_4, shl_u8_4, shr_u16_4, shl_u16_4, shr_u16_8, shl_u16_8, shr_u32_4, shl_u32_4, shr_u32_8, shl_u32_8, shr_u32_16, shl_u32_16, shr_u32_24, shl_u32_24, shr_u64_4, shl_u64_4, shr_u64_8, shl_u64_8, shr_u64_16, shl_u64_16, shr_u64_24, shl_u64_24, shr_u64_40, shl_u64_40, shr_i64_4, shl_i64_4, shr_i64_8, shl_i64_8, shr_i64_16, shl_i64_16, shr_i64_24, shl_i64_24, shr_i64_40, shl_i64_40]; omega)
    | ((with_reducible refine Arith.u16 ?_ ?_); simp (discharger := omega) only [Int.tdiv_eq_ediv_of_nonneg, shr_u8_4, shl_u8_4, shr_u16_4, shl_u16_4, shr_u16_8, shl_u16_8, shr_u32_4, shl_u32_4, shr_u32_8, shl_u32_8, shr_u32_16, shl_u32_16, shr_u32_24, shl_u32_24, shr_u64_4, shl_u64_4, shr_u64_8, shl_u64_8, shr_u64_16, shl_u64_16, shr_u64_24, shl_u64_24, shr_u64_40, shl_u64_40, shr_i64_4, shl_i64_4, shr_i64_8, shl_i64_8, shr_i64_16, shl_i64_16, shr_i64_24, shl_i64_24, shr_i64_40, shl_i64_40]; omega)
    | ((with_reducible refine Arith.u8 ?_ ?_); simp (discharger := omega) only [Int.tdiv_eq_ediv_of_nonneg, shr_u8_4, shl_u8_4, shr_u16_4, shl_u16_4, shr_u16_8, shl_u16_8, shr_u32_4, shl_u32_4, shr_u32_8, shl_u32_8, shr_u32_16, shl_u32_16, shr_u32_24, shl_u32_24, shr_u64_4, shl_u64_4, shr_u64_8, shl_u64_8, shr_u64_16, shl_u64_16, shr_u64_24, shl_u64_24, shr_u64_40, shl_u64_40, shr_i64_4, shl_i64_4, shr_i64_8, shl_i64_8, shr_i64_16, shl_i64_16, shr_i64_24, shl_i64_24, shr_i64_40, shl_i64_40]; omega)
    | (with_reducible refine Arith.mk ?_)
    | (with_reducible refine Ends.mk ?_))
            all_goals rfl
          · have hm : may fl ms sc = false := by
              cases hm : may fl ms sc with
              | false => rfl
              | true => exact absurd ⟨c1, c2, c3, c4, c5, hm⟩ h
            rw [hm] at M
            clear h hm
            refine can_of_W known mix Try.func12 (by kernel_rfl) ok_law16_TcpOptions (Nat.le_of_ble_eq_true rfl) ?_
            repeat' ((conv => whnf); first
    | ((with_reducible refine Look.mk ?_); refine ⟨_, rfl, ?_⟩)
    | ((with_reducible refine LookN.zeros ?_))
    | ((with_reducible refine LookN.bytes ?_ ?_); (simp; done))
    | ((with_reducible refine BytesW.bytes ?_))
    | ((with_reducible refine Look.byte ?_ ?_); omega)
    | ((with_reducible refine Look.setb ?_ ?_ ?_); exact bv8_bd _; omega)
    | ((with_reducible refine LookN.setb ?_ ?_ ?_); exact bv8_bd _; omega)
    | ((with_reducible refine LookN.mk ?_); refine ⟨_, rfl, ?_⟩)
    | ((with_reducible refine Need.mk ?_ ?_); first | ((with_reducible refine needB ?_); kernel_rfl) | exact rfl | trivial | omega | exact Nat.le_of_ble_eq_true rfl | (exact ⟨rfl, by omega⟩) | (intro h; first | rfl | cases h) | (simp only [lenS_text, lenS_setN, lenS_zeros]; omega) | (simp only [ByteArray.size_append, size_lit, List.size_toArray, List.length_cons, List.length_nil, Sp.ofB_size, Sp.headB_size]; omega))
    | ((with_reducible refine BytesW.mk ?_); refine ⟨_, rfl, ?_⟩)
    | (with_reducible refine CallW.det (M) ?_)
    | (with_reducible refine CallW.det (alive_det) ?_)
    | ((with_reducible refine Test.empty (fun h => ?_) (fun h => ?_)))
    | (with_reducible refine Test.tt ?_)
    | (with_reducible refine Test.ff ?_)
    | ((with_reducible refine Test.dt ?_ ?_); omega)
    | ((with_reducible refine Test.df ?_ ?_); omega)
    | (with_reducible refine Test.d (fun h => ?_) (fun h => ?_))
    | ((with_reducible refine Test.ieT ?_ ?_); omega)
    | ((with_reducible refine Test.ieF ?_ ?_); omega)
    | ((with_reducible refine Test.neT ?_ ?_); omega)
    | ((with_reducible refine Test.neF ?_ ?_); omega)
    | (with_reducible refine Test.ie (fun h => ?_) (fun h => ?_))
    | (with_reducible refine Test.ne (fun h => ?_) (fun h => ?_))
    | ((with_reducible refine Test.b ?_ ?_); (focus first | assumption | (simp [negB]; done) | exact rfl))
    | ((with_reducible refine Test.nb ?_ ?_); (focus first | assumption | (simp [negB]; done) | exact rfl))
    | (with_reducible refine Test.mk (fun h => ?_) (fun h => ?_))
    | (with_reducible refine Arith.bv8 ?_)
    | (with_reducible refine Arith.bv16 ?_)
    | (with_reducible refine Arith.bv32 ?_)
    | (with_reducible refine Arith.bv64 ?_)
    | ((with_reducible refine Arith.i64 ?_ ?_); omega)
    | ((with_reducible refine Arith.u64 ?_ ?_); omega)
    | ((with_reducible refine Arith.u32 ?_ ?_); omega)
    | ((with_reducible refine Arith.u16 ?_ ?_); omega)
    | ((with_reducible refine Arith.u8 ?_ ?_); omega)
    | ((with_reducible refine Arith.i32 ?_ ?_); omega)
    | ((with_reducible refine Arith.i64 ?_ ?_); simp (discharger := omega) only [Int.tdiv_eq_ediv_of_nonneg, shr_u8_4, shl_u8_4, shr_u16_4, shl_u16_4, shr_u16_8, shl_u16_8, shr_u32_4, shl_u32_4, shr_u32_8, shl_u32_8, shr_u32_16, shl_u32_16, shr_u32_24, shl_u32_24, shr_u64_4, shl_u64_4, shr_u64_8, shl_u64_8, shr_u64_16, shl_u64_16, shr_u64_24, shl_u64_24, shr_u64_40, shl_u64_40, shr_i64_4, shl_i64_4, shr_i64_8, shl_i64_8, shr_i64_16, shl_i64_16, shr_i64_24, shl_i64_24, shr_i64_40, shl_i64_40]; omega)
    | ((with_reducible refine Arith.u64 ?_ ?_); simp (discharger := omega) only [Int.tdiv_eq_ediv_of_nonneg, shr_u8_4, shl_u8_4, shr_u16_4, shl_u16_4, shr_u16_8, shl_u16_8, shr_u32_4, shl_u32_4, shr_u32_8, shl_u32_8, shr_u32_16, shl_u32_16, shr_u32_24, shl_u32_24, shr_u64_4, shl_u64_4, shr_u64_8, shl_u64_8, shr_u64_16, shl_u64_16, shr_u64_24, shl_u64_24, shr_u64_40, shl_u64_40, shr_i64_4, shl_i64_4, shr_i64_8, shl_i64_8, shr_i64_16, shl_i64_16, shr_i64_24, shl_i64_24, shr_i64_40, shl_i64_40]; omega)
    | ((with_reducible refine Arith.u32 ?_ ?_); simp (discharger := omega) only [Int.tdiv_eq_ediv_of_nonneg, shr_u8_4, shl_u8_4, shr_u16_4, shl_u16_4, shr_u16_8, shl_u16_8, shr_u32_4, shl_u32_4, shr_u32_8, shl_u32_8, shr_u32_16, shl_u32_16, shr_u32_24, shl_u32_24, shr_u64_4, shl_u64_4, shr_u64_8, shl_u64_8, shr_u64_16, shl_u64_16, shr_u64_24, shl_u64_24, shr_u64_40, shl_u64_40, shr_i64_4, shl_i64_4, shr_i64_8, shl_i64_8, shr_i64_16, shl_i64_16, shr_i64_24, shl_i64_24, shr_i64_40, shl_i64_40]; omega)
    | ((with_reducible refine Arith.u16 ?_ ?_); simp (discharger := omega) only [Int.tdiv_eq_ediv_of_nonneg, shr_u8_4, shl_u8_4, shr_u16_4, shl_u16_4, shr_u16_8, shl_u16_8, shr_u32_4, shl_u32_4, shr_u32_8, shl_u32_8, shr_u32_16, shl_u32_16, shr_u32_24, shl_u32_24, shr_u64_4, shl_u64_4, shr_u64_8, shl_u64_8, shr_u64_16, shl_u64_16, shr_u64_24, shl_u64_24, shr_u64_40, shl_u64_40, shr_i64_4, shl_i64_4, shr_i64_8, shl_i64_8, shr_i64_16, shl_i64_16, shr_i64_24, shl_i64_24, shr_i64_40, shl_i64_40]; omega)
    | ((with_reducible refine Arith.u8 ?_ ?_); simp (discharger := omega) only [Int.tdiv_eq_ediv_of_nonneg, shr_u8_4, shl_u8_4, shr_u16_4, shl_u16_4, shr_u16_8, shl_u16_8, shr_u32_4, shl_u32_4, shr_u32_8, shl_u32_8, shr_u32_16, shl_u32_16, shr_u32_24, shl_u32_24, shr_u64_4, shl_u64_4, shr_u64_8, shl_u64_8, shr_u64_16, shl_u64_16, shr_u64_24, shl_u64_24, shr_u64_40, shl_u64_40, shr_i64_4, shl_i64_4, shr_i64_8, shl_i64_8, shr_i64_16, shl_i64_16, shr_i64_24, shl_i64_24, shr_i64_40, shl_i64_40]; omega)
    | (with_reducible refine Arith.mk ?_)
    | (with_reducible refine Ends.mk ?_))
            all_goals rfl
      · refine can_of_W known mix Try.func12 (by kernel_rfl) ok_law16_TcpOptions (Nat.le_of_ble_eq_true rfl) ?_
        repeat' ((conv => whnf); first
    | ((with_reducible refine Look.mk ?_); refine ⟨_, rfl, ?_⟩)
    | ((with_reducible refine LookN.zeros ?_))
    | ((with_reducible refine LookN.bytes ?_ ?_); (simp; done))
    | ((with_reducible refine BytesW.bytes ?_))
    | ((with_reducible refine Look.byte ?_ ?_); omega)
    | ((with_reducible refine Look.setb ?_ ?_ ?_); exact bv8_bd _; omega)
    | ((with_reducible refine LookN.setb ?_ ?_ ?_); exact bv8_bd _; omega)
    | ((with_reducible refine LookN.mk ?_); refine ⟨_, rfl, ?_⟩)
    | ((with_reducible refine Need.mk ?_ ?_); first | ((with_reducible refine needB ?_); kernel_rfl) | exact rfl | trivial | omega | exact Nat.le_of_ble_eq_true rfl | (exact ⟨rfl, by omega⟩) | (intro h; first | rfl | cases h) | (simp only [lenS_text, lenS_setN, lenS_zeros]; omega) | (simp only [ByteArray.size_append, size_lit, List.size_toArray, List.length_cons, List.length_nil, Sp.ofB_size, Sp.headB_size]; omega))
    | ((with_reducible refine BytesW.mk ?_); refine ⟨_, rfl, ?_⟩)
    | (with_reducible refine CallW.det (M) ?_)
    | (with_reducible refine CallW.det (alive_det) ?_)
    | ((with_reducible refine Test.empty (fun h => ?_) (fun h => ?_)))
    | (with_reducible refine Test.tt ?_)
    | (with_reducible refine Test.ff ?_)
    | ((with_reducible refine Test.dt ?_ ?_); omega)
    | ((with_reducible refine Test.df ?_ ?_); omega)
    | (with_reducible refine Test.d (fun h => ?_) (fun h => ?_))
    | ((with_reducible refine Test.ieT ?_ ?_); omega)
    | ((with_reducible refine Test.ieF ?_ ?_); omega)
    | ((with_reducible refine Test.neT ?_ ?_); omega)
    | ((with_reducible refine Test.neF ?_ ?_); omega)
    | (with_reducible refine Test.ie (fun h => ?_) (fun h => ?_))
    | (with_reducible refine Test.ne (fun h => ?_) (fun h => ?_))
    | ((with_reducible refine Test.b ?_ ?_); (focus first | assumption | (simp [negB]; done) | exact rfl))
    | ((with_reducible refine Test.nb ?_ ?_); (focus first | assumption | (simp [negB]; done) | exact rfl))
    | (with_reducible refine Test.mk (fun h => ?_) (fun h => ?_))
    | (with_reducible refine Arith.bv8 ?_)
    | (with_reducible refine Arith.bv16 ?_)
    | (with_reducible refine Arith.bv32 ?_)
    | (with_reducible refine Arith.bv64 ?_)
    | ((with_reducible refine Arith.i64 ?_ ?_); omega)
    | ((with_reducible refine Arith.u64 ?_ ?_); omega)
    | ((with_reducible refine Arith.u32 ?_ ?_); omega)
    | ((with_reducible refine Arith.u16 ?_ ?_); omega)
    | ((with_reducible refine Arith.u8 ?_ ?_); omega)
    | ((with_reducible refine Arith.i32 ?_ ?_); omega)
    | ((with_reducible refine Arith.i64 ?_ ?_); simp (discharger := omega) only [Int.tdiv_eq_ediv_of_nonneg, shr_u8_4, shl_u8_4, shr_u16_4, shl_u16_4, shr_u16_8, shl_u16_8, shr_u32_4, shl_u32_4, shr_u32_8, shl_u32_8, shr_u32_16, shl_u32_16, shr_u32_24, shl_u32_24, shr_u64_4, shl_u64_4, shr_u64_8, shl_u64_8, shr_u64_16, shl_u64_16, shr_u64_24, shl_u64_24, shr_u64_40, shl_u64_40, shr_i64_4, shl_i64_4, shr_i64_8, shl_i64_8, shr_i64_16, shl_i64_16, shr_i64_24, shl_i64_24, shr_i64_40, shl_i64_40]; omega)
    | ((with_reducible refine Arith.u64 ?_ ?_); simp (discharger := omega) only [Int.tdiv_eq_ediv_of_nonneg, shr_u8_4, shl_u8_4, shr_u16_4, shl_u16_4, shr_u16_8, shl_u16_8, shr_u32_4, shl_u32_4, shr_u32_8, shl_u32_8, shr_u32_16, shl_u32_16, shr_u32_24, shl_u32_24, shr_u64_4, shl_u64_4, shr_u64_8, shl_u64_8, shr_u64_16, shl_u64_16, shr_u64_24, shl_u64_24, shr_u64_40, shl_u64_40, shr_i64_4, shl_i64_4, shr_i64_8, shl_i64_8, shr_i64_16, shl_i64_16, shr_i64_24, shl_i64_24, shr_i64_40, shl_i64_40]; omega)
    | ((with_reducible refine Arith.u32 ?_ ?_); simp (discharger := omega) only [Int.tdiv_eq_ediv_of_nonneg, shr_u8_4, shl_u8_4, shr_u16_4, shl_u16_4, shr_u16_8, shl_u16_8, shr_u32_4, shl_u32_4, shr_u32_8, shl_u32_8, shr_u32_16, shl_u32_16, shr_u32_24, shl_u32_24, shr_u64_4, shl_u64_4, shr_u64_8, shl_u64_8, shr_u64_16, shl_u64_16, shr_u64_24, shl_u64_24, shr_u64_40, shl_u64_40, shr_i64_4, shl_i64_4, shr_i64_8, shl_i64_8, shr_i64_16, shl_i64_16, shr_i64_24, shl_i64_24, shr_i64_40, shl_i64_40]; omega)
    | ((with_reducible refine Arith.u16 ?_ ?_); simp (discharger := omega) only [Int.tdiv_eq_ediv_of_nonneg, shr_u8_4, shl_u8_4, shr_u16_4, shl_u16_4, shr_u16_8, shl_u16_8, shr_u32_4, shl_u32_4, shr_u32_8, shl_u32_8, shr_u32_16, shl_u32_16, shr_u32_24, shl_u32_24, shr_u64_4, shl_u64_4, shr_u64_8, shl_u64_8, shr_u64_16, shl_u64_16, shr_u64_24, shl_u64_24, shr_u64_40, shl_u64_40, shr_i64_4, shl_i64_4, shr_i64_8, shl_i64_8, shr_i64_16, shl_i64_16, shr_i64_24, shl_i64_24, shr_i64_40, shl_i64_40]; omega)
    | ((with_reducible refine Arith.u8 ?_ ?_); simp (discharger := omega) only [Int.tdiv_eq_ediv_of_nonneg, shr_u8_4, shl_u8_4, shr_u16_4, shl_u16_4, shr_u16_8, shl_u16_8, shr_u32_4, shl_u32_4, shr_u32_8, shl_u32_8, shr_u32_16, shl_u32_16, shr_u32_24, shl_u32_24, shr_u64_4, shl_u64_4, shr_u64_8, shl_u64_8, shr_u64_16, shl_u64_16, shr_u64_24, shl_u64_24, shr_u64_40, shl_u64_40, shr_i64_4, shl_i64_4, shr_i64_8, shl_i64_8, shr_i64_16, shl_i64_16, shr_i64_24, shl_i64_24, shr_i64_40, shl_i64_40]; omega)
    | (with_reducible refine Arith.mk ?_)
    | (with_reducible refine Ends.mk ?_))
        all_goals rfl
    · refine can_of_W known mix Try.func12 (by kernel_rfl) ok_law16_TcpOptions (Nat.le_of_ble_eq_true rfl) ?_
      repeat' ((conv => whnf); first
    | ((with_reducible refine Look.mk ?_); refine ⟨_, rfl, ?_⟩)
    | ((with_reducible refine LookN.zeros ?_))
    | ((with_reducible refine LookN.bytes ?_ ?_); (simp; done))
    | ((with_reducible refine BytesW.bytes ?_))
    | ((with_reducible refine Look.byte ?_ ?_); omega)
    | ((with_reducible refine Look.setb ?_ ?_ ?_); exact bv8_bd _; omega)
    | ((with_reducible refine LookN.setb ?_ ?_ ?_); exact bv8_bd _; omega)
    | ((with_reducible refine LookN.mk ?_); refine ⟨_, rfl, ?_⟩)
    | ((with_reducible refine Need.mk ?_ ?_); first | ((with_reducible refine needB ?_); kernel_rfl) | exact rfl | trivial | omega | exact Nat.le_of_ble_eq_true rfl | (exact ⟨rfl, by omega⟩) | (intro h; first | rfl | cases h) | (simp only [lenS_text, lenS_setN, lenS_zeros]; omega) | (simp only [ByteArray.size_append, size_lit, List.size_toArray, List.length_cons, List.length_nil, Sp.ofB_size, Sp.headB_size]; omega))
    | ((with_reducible refine BytesW.mk ?_); refine ⟨_, rfl, ?_⟩)
    | (with_reducible refine CallW.det (M) ?_)
    | (with_reducible refine CallW.det (alive_det) ?_)
    | ((with_reducible refine Test.empty (fun h => ?_) (fun h => ?_)))
    | (with_reducible refine Test.tt ?_)
    | (with_reducible refine Test.ff ?_)
    | ((with_reducible refine Test.dt ?_ ?_); omega)
    | ((with_reducible refine Test.df ?_ ?_); omega)
    | (with_reducible refine Test.d (fun h => ?_) (fun h => ?_))
    | ((with_reducible refine Test.ieT ?_ ?_); omega)
    | ((with_reducible refine Test.ieF ?_ ?_); omega)
    | ((with_reducible refine Test.neT ?_ ?_); omega)
    | ((with_reducible refine Test.neF ?_ ?_); omega)
    | (with_reducible refine Test.ie (fun h => ?_) (fun h => ?_))
    | (with_reducible refine Test.ne (fun h => ?_) (fun h => ?_))
    | ((with_reducible refine Test.b ?_ ?_); (focus first | assumption | (simp [negB]; done) | exact rfl))
    | ((with_reducible refine Test.nb ?_ ?_); (focus first | assumption | (simp [negB]; done) | exact rfl))
    | (with_reducible refine Test.mk (fun h => ?_) (fun h => ?_))
    | (with_reducible refine Arith.bv8 ?_)
    | (with_reducible refine Arith.bv16 ?_)
    | (with_reducible refine Arith.bv32 ?_)
    | (with_reducible refine Arith.bv64 ?_)
    | ((with_reducible refine Arith.i64 ?_ ?_); omega)
    | ((with_reducible refine Arith.u64 ?_ ?_); omega)
    | ((with_reducible refine Arith.u32 ?_ ?_); omega)
    | ((with_reducible refine Arith.u16 ?_ ?_); omega)
    | ((with_reducible refine Arith.u8 ?_ ?_); omega)
    | ((with_reducible refine Arith.i32 ?_ ?_); omega)
    | ((with_reducible refine Arith.i64 ?_ ?_); simp (discharger := omega) only [Int.tdiv_eq_ediv_of_nonneg, shr_u8_4, shl_u8_4, shr_u16_4, shl_u16_4, shr_u16_8, shl_u16_8, shr_u32_4, shl_u32_4, shr_u32_8, shl_u32_8, shr_u32_16, shl_u32_16, shr_u32_24, shl_u32_24, shr_u64_4, shl_u64_4, shr_u64_8, shl_u64_8, shr_u64_16, shl_u64_16, shr_u64_24, shl_u64_24, shr_u64_40, shl_u64_40, shr_i64_4, shl_i64_4, shr_i64_8, shl_i64_8, shr_i64_16, shl_i64_16, shr_i64_24, shl_i64_24, shr_i64_40, shl_i64_40]; omega)
    | ((with_reducible refine Arith.u64 ?_ ?_); simp (discharger := omega) only [Int.tdiv_eq_ediv_of_nonneg, shr_u8_4, shl_u8_4, shr_u16_4, shl_u16_4, shr_u16_8, shl_u16_8, shr_u32_4, shl_u32_4, shr_u32_8, shl_u32_8, shr_u32_16, shl_u32_16, shr_u32_24, shl_u32_24, shr_u64_4, shl_u64_4, shr_u64_8, shl_u64_8, shr_u64_16, shl_u64_16, shr_u64_24, shl_u64_24, shr_u64_40, shl_u64_40, shr_i64_4, shl_i64_4, shr_i64_8, shl_i64_8, shr_i64_16, shl_i64_16, shr_i64_24, shl_i64_24, shr_i64_40, shl_i64_40]; omega)
    | ((with_reducible refine Arith.u32 ?_ ?_); simp (discharger := omega) only [Int.tdiv_eq_ediv_of_nonneg, shr_u8_4, shl_u8_4, shr_u16_4, shl_u16_4, shr_u16_8, shl_u16_8, shr_u32_4, shl_u32_4, shr_u32_8, shl_u32_8, shr_u32_16, shl_u32_16, shr_u32_24, shl_u32_24, shr_u64_4, shl_u64_4, shr_u64_8, shl_u64_8, shr_u64_16, shl_u64_16, shr_u64_24, shl_u64_24, shr_u64_40, shl_u64_40, shr_i64_4, shl_i64_4, shr_i64_8, shl_i64_8, shr_i64_16, shl_i64_16, shr_i64_24, shl_i64_24, shr_i64_40, shl_i64_40]; omega)
    | ((with_reducible refine Arith.u16 ?_ ?_); simp (discharger := omega) only [Int.tdiv_eq_ediv_of_nonneg, shr_u8_4, shl_u8_4, shr_u16_4, shl_u16_4, shr_u16_8, shl_u16_8, shr_u32_4, shl_u32_4, shr_u32_8, shl_u32_8, shr_u32_16, shl_u32_16, shr_u32_24, shl_u32_24, shr_u64_4, shl_u64_4, shr_u64_8, shl_u64_8, shr_u64_16, shl_u64_16, shr_u64_24, shl_u64_24, shr_u64_40, shl_u64_40, shr_i64_4, shl_i64_4, shr_i64_8, shl_i64_8, shr_i64_16, shl_i64_16, shr_i64_24, shl_i64_24, shr_i64_40, shl_i64_40]; omega)
    | ((with_reducible refine Arith.u8 ?_ ?_); simp (discharger := omega) only [Int.tdiv_eq_ediv_of_nonneg, shr_u8_4, shl_u8_4, shr_u16_4, shl_u16_4, shr_u16_8, shl_u16_8, shr_u32_4, shl_u32_4, shr_u32_8, shl_u32_8, shr_u32_16, shl_u32_16, shr_u32_24, shl_u32_24, shr_u64_4, shl_u64_4, shr_u64_8, shl_u64_8, shr_u64_16, shl_u64_16, shr_u64_24, shl_u64_24, shr_u64_40, shl_u64_40, shr_i64_4, shl_i64_4, shr_i64_8, shl_i64_8, shr_i64_16, shl_i64_16, shr_i64_24, shl_i64_24, shr_i64_40, shl_i64_40]; omega)
    | (with_reducible refine Arith.mk ?_)
    | (with_reducible refine Ends.mk ?_))
      all_goals rfl
  · refine can_of_W known mix Try.func12 (by kernel_rfl) ok_law16_TcpOptions (Nat.le_of_ble_eq_true rfl) ?_
    repeat' ((conv => whnf); first
    | ((with_reducible refine Look.mk ?_); refine ⟨_, rfl, ?_⟩)
    | ((with_reducible refine LookN.zeros ?_))
    | ((with_reducible refine LookN.bytes ?_ ?_); (simp; done))
    | ((with_reducible refine BytesW.bytes ?_))
    | ((with_reducible refine Look.byte ?_ ?_); omega)
    | ((with_reducible refine Look.setb ?_ ?_ ?_); exact bv8_bd _; omega)
    | ((with_reducible refine LookN.setb ?_ ?_ ?_); exact bv8_bd _; omega)
    | ((with_reducible refine LookN.mk ?_); refine ⟨_, rfl, ?_⟩)
    | ((with_reducible refine Need.mk ?_ ?_); first | ((with_reducible refine needB ?_); kernel_rfl) | exact rfl | trivial | omega | exact Nat.le_of_ble_eq_true rfl | (exact ⟨rfl, by omega⟩) | (intro h; first | rfl | cases h) | (simp only [lenS_text, lenS_setN, lenS_zeros]; omega) | (simp only [ByteArray.size_append, size_lit, List.size_toArray, List.length_cons, List.length_nil, Sp.ofB_size, Sp.headB_size]; omega))
    | ((with_reducible refine BytesW.mk ?_); refine ⟨_, rfl, ?_⟩)
    | (with_reducible refine CallW.det (M) ?_)
    | (with_reducible refine CallW.det (alive_det) ?_)
    | ((with_reducible refine Test.empty (fun h => ?_) (fun h => ?_)))
    | (with_reducible refine Test.tt ?_)
    | (with_reducible refine Test.ff ?_)
    | ((with_reducible refine Test.dt ?_ ?_); omega)
    | ((with_reducible refine Test.df ?_ ?_); omega)
    | (with_reducible refine Test.d (fun h => ?_) (fun h => ?_))
    | ((with_reducible refine Test.ieT ?_ ?_); omega)
    | ((with_reducible refine Test.ieF ?_ ?_); omega)
    | ((with_reducible refine Test.neT ?_ ?_); omega)
    | ((with_reducible refine Test.neF ?_ ?_); omega)
    | (with_reducible refine Test.ie (fun h => ?_) (fun h => ?_))
    | (with_reducible refine Test.ne (fun h => ?_) (fun h => ?_))
    | ((with_reducible refine Test.b ?_ ?_); (focus first | assumption | (simp [negB]; done) | exact rfl))
    | ((with_reducible refine Test.nb ?_ ?_); (focus first | assumption | (simp [negB]; done) | exact rfl))
    | (with_reducible refine Test.mk (fun h => ?_) (fun h => ?_))
    | (with_reducible refine Arith.bv8 ?_)
    | (with_reducible refine Arith.bv16 ?_)
    | (with_reducible refine Arith.bv32 ?_)
    | (with_reducible refine Arith.bv64 ?_)
    | ((with_reducible refine Arith.i64 ?_ ?_); omega)
    | ((with_reducible refine Arith.u64 ?_ ?_); omega)
    | ((with_reducible refine Arith.u32 ?_ ?_); omega)
    | ((with_reducible refine Arith.u16 ?_ ?_); omega)
    | ((with_reducible refine Arith.u8 ?_ ?_); omega)
    | ((with_reducible refine Arith.i32 ?_ ?_); omega)
    | ((with_reducible refine Arith.i64 ?_ ?_); simp (discharger := omega) only [Int.tdiv_eq_ediv_of_nonneg, shr_u8_4, shl_u8_4, shr_u16_4, shl_u16_4, shr_u16_8, shl_u16_8, shr_u32_4, shl_u32_4, shr_u32_8, shl_u32_8, shr_u32_16, shl_u32_16, shr_u32_24, shl_u32_24, shr_u64_4, shl_u64_4, shr_u64_8, shl_u64_8, shr_u64_16, shl_u64_16, shr_u64_24, shl_u64_24, shr_u64_40, shl_u64_40, shr_i64_4, shl_i64_4, shr_i64_8, shl_i64_8, shr_i64_16, shl_i64_16, shr_i64_24, shl_i64_24, shr_i64_40, shl_i64_40]; omega)
    | ((with_reducible refine Arith.u64 ?_ ?_); simp (discharger := omega) only [Int.tdiv_eq_ediv_of_nonneg, shr_u8_4, shl_u8_4, shr_u16_4, shl_u16_4, shr_u16_8, shl_u16_8, shr_u32_4, shl_u32_4, shr_u32_8, shl_u32_8, shr_u32_16, shl_u32_16, shr_u32_24, shl_u32_24, shr_u64_4, shl_u64_4, shr_u64_8, shl_u64_8, shr_u64_16, shl_u64_16, shr_u64_24, shl_u64_24, shr_u64_40, shl_u64_40, shr_i64_4, shl_i64_4, shr_i64_8, shl_i64_8, shr_i64_16, shl_i64_16, shr_i64_24, shl_i64_24, shr_i64_40, shl_i64_40]; omega)
    | ((with_reducible refine Arith.u32 ?_ ?_); simp (discharger := omega) only [Int.tdiv_eq_ediv_of_nonneg, shr_u8_4, shl_u8_4, shr_u16_4, shl_u16_4, shr_u16_8, shl_u16_8, shr_u32_4, shl_u32_4, shr_u32_8, shl_u32_8, shr_u32_16, shl_u32_16, shr_u32_24, shl_u32_24, shr_u64_4, shl_u64_4, shr_u64_8, shl_u64_8, shr_u64_16, shl_u64_16, shr_u64_24, shl_u64_24, shr_u64_40, shl_u64_40, shr_i64_4, shl_i64_4, shr_i64_8, shl_i64_8, shr_i64_16, shl_i64_16, shr_i64_24, shl_i64_24, shr_i64_40, shl_i64_40]; omega)
    | ((with_reducible refine Arith.u16 ?_ ?_); simp (discharger := omega) only [Int.tdiv_eq_ediv_of_nonneg, shr_u8_4, shl_u8_4, shr_u16_4, shl_u16_4, shr_u16_8, shl_u16_8, shr_u32_4, shl_u32_4, shr_u32_8, shl_u32_8, shr_u32_16, shl_u32_16, shr_u32_24, shl_u32_24, shr_u64_4, shl_u64_4, shr_u64_8, shl_u64_8, shr_u64_16, shl_u64_16, shr_u64_24, shl_u64_24, shr_u64_40, shl_u64_40, shr_i64_4, shl_i64_4, shr_i64_8, shl_i64_8, shr_i64_16, shl_i64_16, shr_i64_24, shl_i64_24, shr_i64_40, shl_i64_40]; omega)
    | ((with_reducible refine Arith.u8 ?_ ?_); simp (discharger := omega) only [Int.tdiv_eq_ediv_of_nonneg, shr_u8_4, shl_u8_4, shr_u16_4, shl_u16_4, shr_u16_8, shl_u16_8, shr_u32_4, shl_u32_4, shr_u32_8, shl_u32_8, shr_u32_16, shl_u32_16, shr_u32_24, shl_u32_24, shr_u64_4, shl_u64_4, shr_u64_8, shl_u64_8, shr_u64_16, shl_u64_16, shr_u64_24, shl_u64_24, shr_u64_40, shl_u64_40, shr_i64_4, shl_i64_4, shr_i64_8, shl_i64_8, shr_i64_16, shl_i64_16, shr_i64_24, shl_i64_24, shr_i64_40, shl_i64_40]; omega)
    | (with_reducible refine Arith.mk ?_)
    | (with_reducible refine Ends.mk ?_))
    all_goals rfl
theorem options_row (x p y q sq ac fl wi ur ms sc : Int) (d : ByteArray) (kind : Int) (data : ByteArray) (first : Bool) (w : World) (hx : 0 ≤ x ∧ x ≤ 4294967295) (hp : 0 ≤ p ∧ p ≤ 65535) (hy : 0 ≤ y ∧ y ≤ 4294967295) (hq : 0 ≤ q ∧ q ≤ 65535) (hsq : 0 ≤ sq ∧ sq ≤ 4294967295) (hac : 0 ≤ ac ∧ ac ≤ 4294967295) (hfl : 0 ≤ fl ∧ fl ≤ 255) (hwi : 0 ≤ wi ∧ wi ≤ 65535) (hur : 0 ≤ ur ∧ ur ≤ 65535) (hms : 0 ≤ ms ∧ ms ≤ 65535) (hsc : -9223372036854775808 ≤ sc ∧ sc ≤ 9223372036854775807) (hd : d.size ≤ maxLen) (hk : 0 ≤ kind ∧ kind ≤ 255) (hdz : data.size ≤ maxLen) :
    Calls Try.prog 12 #[.agg #[.int .u32 x, .int .u16 p, .int .u32 y, .int .u16 q, .int .u32 sq, .int .u32 ac, .int .u8 fl, .int .u16 wi, .int .u16 ur, .int .u16 ms, .int .i64 sc, .string d], .int .u8 kind, .string data, .bool first] w fun e w' => e = .returned (.bool true) ∧ Below w.heap.size w w' := by
  by_cases h : (d.size : Int) ≤ 1024 ∧ (data.size : Int) ≤ 20 ∧ 2 ≤ kind ∧ ¬ (kind = 2 ∧ (data.size : Int) = 2) ∧ ¬ (kind = 3 ∧ (data.size : Int) = 1) ∧ may fl ms sc = true
  · obtain ⟨h1, h2, h3, h4, h5, h6⟩ := h
    cases first
    · exact calls_of_can (options_false x p y q sq ac fl wi ur ms sc d kind data hx hp hy hq hsq hac hfl hwi hur hms hsc h1 h2 ⟨h3, hk.2⟩ h4 h5 h6) rfl rfl w
    · exact calls_of_can (options_true x p y q sq ac fl wi ur ms sc d kind data hx hp hy hq hsq hac hfl hwi hur hms hsc h1 h2 ⟨h3, hk.2⟩ h4 h5 h6) rfl rfl w
  · exact calls_of_can (options_far x p y q sq ac fl wi ur ms sc d kind data first h hk.1) rfl rfl w
end L16
end Go.Proofs.Ytlpeefemffmpmaa.VM
