/- law 14 by the evaluator: the law IcmpQuotes. -/
import Derived.Test.YtnmeeafnobfobaaV14d
namespace Go.Proofs.Ytnmeeafnobfobaa.VM
namespace G2
open Go.RowKit
set_option linter.unusedVariables false
set_option linter.unusedSimpArgs false
set_option maxRecDepth 100000
def vf_law14_IcmpQuotes : VFn := ⟨(.seq (.reg [
    ⟨(some 5), .box (.t 0), none, 0⟩,
    ⟨(some 10), .mv (.c (.p (.o (.bool false)))), none, 1⟩] 1 none) (.seq (.seq (.reg [
    ⟨(some 24), .ld (some 10) (.t 5), none, 0⟩,
    ⟨(some 25), .mv (.t 1), none, 0⟩,
    ⟨(some 26), .call 25 [(.t 24), (.t 25)] 0, none, 0⟩] 0 none) (.cond (.t 26) (.seq (.reg [
    ⟨(some 27), .call 14 [] 0, none, 0⟩,
    ⟨(some 10), .mv (.t 27), none, 0⟩] 0 none) .ret) .skip)) (.seq (.reg [
    ⟨(some 29), .ld (some 10) (.t 5), none, 0⟩,
    ⟨(some 30), .mv (.t 1), none, 0⟩,
    ⟨(some 31), .call 26 [(.t 29), (.t 30)] 0, none, 0⟩,
    ⟨(some 28), .mv (.t 31), none, 0⟩,
    ⟨(some 32), .ext 0 (.t 28), none, 0⟩,
    ⟨(some 33), .ext 1 (.t 28), none, 0⟩,
    ⟨(some 11), .mv (.t 32), none, 0⟩,
    ⟨(some 12), .mv (.t 33), none, 0⟩] 0 none) (.seq (.seq (.reg [
    ⟨(some 34), .mv (.t 12), none, 0⟩,
    ⟨(some 35), .bin .neq (.t 34) (.c (.p (.o (.int .i64 0)))), none, 0⟩] 0 none) (.cond (.t 35) (.seq (.reg [
    ⟨(some 36), .call 14 [] 0, none, 0⟩,
    ⟨(some 10), .mv (.t 36), none, 0⟩] 0 none) .ret) .skip)) (.seq (.reg [
    ⟨(some 38), .mv (.t 2), none, 0⟩,
    ⟨(some 39), .mv (.t 3), none, 0⟩,
    ⟨(some 40), .mv (.t 4), none, 0⟩,
    ⟨(some 41), .mv (.t 11), none, 0⟩,
    ⟨(some 42), .bin .add (.t 41) (.c (.p (.o (.str ⟨#[98, 101, 104, 105, 110, 100]⟩)))), none, 0⟩,
    ⟨(some 43), .call 21 [(.t 38), (.t 39), (.t 40), (.t 42)] 0, none, 0⟩,
    ⟨(some 37), .mv (.t 43), none, 0⟩,
    ⟨(some 44), .ext 0 (.t 37), none, 0⟩,
    ⟨(some 45), .ext 1 (.t 37), none, 0⟩,
    ⟨(some 13), .new [.int .u8 0, .int .u8 0, .int .u32 0, .str ⟨#[]⟩], none, 0⟩,
    ⟨none, .st 4 (.t 13) (.t 44), none, 1⟩,
    ⟨(some 14), .mv (.t 45), none, 1⟩] 1 none) (.seq (.seq (.reg [
    ⟨(some 46), .mv (.t 14), none, 0⟩,
    ⟨(some 47), .un .not (.t 46), none, 0⟩] 0 none) (.cond (.t 47) (.seq (.reg [
    ⟨(some 48), .ld (some 4) (.t 13), none, 0⟩,
    ⟨(some 49), .bld [.int .u8 0, .int .u8 0, .int .u32 0, .str ⟨#[]⟩] [], none, 0⟩,
    ⟨(some 50), .eq (.flat [.int .u8, .int .u8, .int .u32, .str]) false (.t 48) (.t 49), none, 0⟩,
    ⟨(some 51), .mv (.t 50), none, 0⟩,
    ⟨(some 52), .call 14 [] 0, (some (51, true)), 0⟩,
    ⟨(some 53), .pick (.t 51) (.t 52) (.c (.p (.o (.bool false)))), none, 0⟩,
    ⟨(some 10), .mv (.t 53), none, 0⟩] 0 none) .ret) .skip)) (.seq (.reg [
    ⟨(some 55), .ld (some 4) (.t 13), none, 0⟩,
    ⟨(some 56), .call 23 [(.t 55)] 0, none, 0⟩,
    ⟨(some 54), .mv (.t 56), none, 0⟩,
    ⟨(some 57), .ext 0 (.t 54), none, 0⟩,
    ⟨(some 58), .ext 1 (.t 54), none, 0⟩,
    ⟨(some 59), .ext 2 (.t 54), none, 0⟩,
    ⟨(some 15), .new [.int .u8 0, .int .u16 0, .bool false, .bool false, .int .i64 0, .int .u8 0, .int .u8 0, .int .u32 0, .int .u32 0, .str ⟨#[]⟩], none, 0⟩,
    ⟨none, .st 10 (.t 15) (.t 57), none, 1⟩,
    ⟨(some 16), .mv (.t 58), none, 1⟩,
    ⟨(some 17), .mv (.t 59), none, 1⟩] 1 none) (.seq (.seq (.reg [
    ⟨(some 60), .mv (.t 17), none, 0⟩,
    ⟨(some 61), .un .not (.t 60), none, 0⟩,
    ⟨(some 62), .mv (.t 61), none, 0⟩,
    ⟨(some 63), .ld (some 10) (.t 15), (some (62, false)), 0⟩,
    ⟨(some 64), .ld (some 10) (.t 5), (some (62, false)), 0⟩,
    ⟨(some 65), .eq (.flat [.int .u8, .int .u16, .bool, .bool, .int .i64, .int .u8, .int .u8, .int .u32, .int .u32, .str]) true (.t 63) (.t 64), (some (62, false)), 0⟩,
    ⟨(some 66), .pick (.t 62) (.c (.p (.o (.bool true)))) (.t 65), none, 0⟩,
    ⟨(some 67), .mv (.t 66), none, 0⟩,
    ⟨(some 68), .mv (.t 16), (some (67, false)), 0⟩,
    ⟨(some 69), .mv (.t 1), (some (67, false)), 0⟩,
    ⟨(some 70), .mv (.t 1), (some (67, false)), 0⟩,
    ⟨(some 71), .len false (.t 70), (some (67, false)), 0⟩,
    ⟨(some 72), .mnx false (.t 71) (.c (.p (.o (.int .i64 8)))), (some (67, false)), 0⟩,
    ⟨(some 73), .sls (.t 69) none (some (.t 72)), (some (67, false)), 0⟩,
    ⟨(some 74), .bin .neq (.t 68) (.t 73), (some (67, false)), 0⟩,
    ⟨(some 75), .pick (.t 67) (.c (.p (.o (.bool true)))) (.t 74), none, 0⟩,
    ⟨(some 76), .mv (.t 75), none, 0⟩,
    ⟨(some 77), .fad 0 (.t 13), (some (76, false)), 0⟩,
    ⟨(some 78), .ld none (.t 77), (some (76, false)), 0⟩,
    ⟨(some 79), .mv (.t 2), (some (76, false)), 0⟩,
    ⟨(some 80), .bin .neq (.t 78) (.t 79), (some (76, false)), 0⟩,
    ⟨(some 81), .pick (.t 76) (.c (.p (.o (.bool true)))) (.t 80), none, 0⟩,
    ⟨(some 82), .mv (.t 81), none, 0⟩,
    ⟨(some 83), .fad 1 (.t 13), (some (82, false)), 0⟩,
    ⟨(some 84), .ld none (.t 83), (some (82, false)), 0⟩,
    ⟨(some 85), .mv (.t 3), (some (82, false)), 0⟩,
    ⟨(some 86), .bin .neq (.t 84) (.t 85), (some (82, false)), 0⟩,
    ⟨(some 87), .pick (.t 82) (.c (.p (.o (.bool true)))) (.t 86), none, 0⟩,
    ⟨(some 88), .mv (.t 87), none, 0⟩,
    ⟨(some 89), .fad 2 (.t 13), (some (88, false)), 0⟩,
    ⟨(some 90), .ld none (.t 89), (some (88, false)), 0⟩,
    ⟨(some 91), .mv (.t 4), (some (88, false)), 0⟩,
    ⟨(some 92), .bin .neq (.t 90) (.t 91), (some (88, false)), 0⟩,
    ⟨(some 93), .pick (.t 88) (.c (.p (.o (.bool true)))) (.t 92), none, 0⟩,
    ⟨(some 94), .mv (.t 93), none, 0⟩,
    ⟨(some 95), .fad 4 (.t 5), (some (94, false)), 0⟩,
    ⟨(some 96), .ld none (.t 95), (some (94, false)), 0⟩,
    ⟨(some 97), .bin .neq (.t 96) (.c (.p (.o (.int .i64 0)))), (some (94, false)), 0⟩,
    ⟨(some 98), .pick (.t 94) (.c (.p (.o (.bool true)))) (.t 97), none, 0⟩,
    ⟨(some 99), .mv (.t 98), none, 0⟩,
    ⟨(some 100), .fad 3 (.t 13), (some (99, false)), 0⟩,
    ⟨(some 101), .ld none (.t 100), (some (99, false)), 0⟩,
    ⟨(some 102), .len false (.t 101), (some (99, false)), 0⟩,
    ⟨(some 103), .fad 9 (.t 5), (some (99, false)), 0⟩,
    ⟨(some 104), .ld none (.t 103), (some (99, false)), 0⟩,
    ⟨(some 105), .len false (.t 104), (some (99, false)), 0⟩,
    ⟨(some 106), .bin .add (.c (.p (.o (.int .i64 20)))) (.t 105), (some (99, false)), 0⟩,
    ⟨(some 107), .mv (.t 16), (some (99, false)), 0⟩,
    ⟨(some 108), .len false (.t 107), (some (99, false)), 0⟩,
    ⟨(some 109), .bin .add (.t 106) (.t 108), (some (99, false)), 0⟩,
    ⟨(some 110), .bin .neq (.t 102) (.t 109), (some (99, false)), 0⟩,
    ⟨(some 111), .pick (.t 99) (.c (.p (.o (.bool true)))) (.t 110), none, 0⟩] 0 none) (.cond (.t 111) (.seq (.reg [
    ⟨(some 10), .mv (.c (.p (.o (.bool false)))), none, 0⟩] 0 none) .ret) .skip)) (.seq (.reg [
    ⟨(some 113), .ld (some 4) (.t 13), none, 0⟩,
    ⟨(some 114), .call 15 [(.t 113)] 0, none, 0⟩,
    ⟨(some 112), .mv (.t 114), none, 0⟩,
    ⟨(some 115), .ext 0 (.t 112), none, 0⟩,
    ⟨(some 116), .ext 1 (.t 112), none, 0⟩,
    ⟨(some 18), .mv (.t 115), none, 0⟩,
    ⟨(some 19), .mv (.t 116), none, 0⟩] 0 none) (.seq (.reg [
    ⟨(some 118), .fad 7 (.t 5), none, 0⟩,
    ⟨(some 119), .ld none (.t 118), none, 0⟩,
    ⟨(some 120), .fad 7 (.t 5), none, 0⟩,
    ⟨(some 121), .ld none (.t 120), none, 0⟩,
    ⟨(some 122), .bld [.int .u8 0, .int .u16 0, .bool false, .bool false, .int .i64 0, .int .u8 0, .int .u8 0, .int .u32 0, .int .u32 0, .str ⟨#[]⟩] [(5, 1, (.c (.p (.o (.int .u8 64))))), (6, 1, (.c (.p (.o (.int .u8 1))))), (7, 1, (.t 119)), (8, 1, (.t 121))], none, 0⟩,
    ⟨(some 123), .mv (.t 18), none, 0⟩,
    ⟨(some 124), .call 26 [(.t 122), (.t 123)] 0, none, 0⟩,
    ⟨(some 117), .mv (.t 124), none, 0⟩,
    ⟨(some 125), .ext 0 (.t 117), none, 0⟩,
    ⟨(some 126), .ext 1 (.t 117), none, 0⟩,
    ⟨(some 20), .mv (.t 125), none, 0⟩,
    ⟨(some 21), .mv (.t 126), none, 0⟩] 0 none) (.seq (.reg [
    ⟨(some 128), .mv (.t 20), none, 0⟩,
    ⟨(some 129), .call 21 [(.c (.p (.o (.int .u8 3)))), (.c (.p (.o (.int .u8 3)))), (.c (.p (.o (.int .u32 0)))), (.t 128)] 0, none, 0⟩,
    ⟨(some 127), .mv (.t 129), none, 0⟩,
    ⟨(some 130), .ext 0 (.t 127), none, 0⟩,
    ⟨(some 131), .ext 1 (.t 127), none, 0⟩,
    ⟨(some 22), .new [.int .u8 0, .int .u8 0, .int .u32 0, .str ⟨#[]⟩], none, 0⟩,
    ⟨none, .st 4 (.t 22) (.t 130), none, 1⟩,
    ⟨(some 23), .mv (.t 131), none, 1⟩] 1 none) (.seq (.reg [
    ⟨(some 132), .mv (.t 19), none, 0⟩,
    ⟨(some 133), .bin .eql (.t 132) (.c (.p (.o (.int .i64 0)))), none, 0⟩,
    ⟨(some 134), .mv (.t 133), none, 0⟩,
    ⟨(some 135), .mv (.t 21), (some (134, true)), 0⟩,
    ⟨(some 136), .bin .eql (.t 135) (.c (.p (.o (.int .i64 0)))), (some (134, true)), 0⟩,
    ⟨(some 137), .pick (.t 134) (.t 136) (.c (.p (.o (.bool false)))), none, 0⟩,
    ⟨(some 138), .mv (.t 137), none, 0⟩,
    ⟨(some 139), .mv (.t 23), (some (138, true)), 0⟩,
    ⟨(some 140), .un .not (.t 139), (some (138, true)), 0⟩,
    ⟨(some 141), .pick (.t 138) (.t 140) (.c (.p (.o (.bool false)))), none, 0⟩,
    ⟨(some 142), .mv (.t 141), none, 0⟩,
    ⟨(some 143), .call 14 [] 0, (some (142, true)), 0⟩,
    ⟨(some 144), .pick (.t 142) (.t 143) (.c (.p (.o (.bool false)))), none, 0⟩,
    ⟨(some 10), .mv (.t 144), none, 0⟩] 0 none) .ret)))))))))))),
  [.tmp 10], 145, [0, 1, 2, 3, 4, 5, 10, 11, 12, 13, 14, 15, 16, 17, 18, 19, 20, 21, 23]⟩
theorem ok_law14_IcmpQuotes : cFn Try.prog eqsT newsT vf_law14_IcmpQuotes.keep Try.f6 = some vf_law14_IcmpQuotes := by kernel_rfl
def vf_law10_Long : VFn := ⟨(.seq (.reg [
    ⟨(some 2), .box (.t 0), none, 0⟩,
    ⟨(some 4), .mv (.c (.p (.o (.bool false)))), none, 1⟩] 1 none) (.seq (.reg [
    ⟨(some 5), .fad 9 (.t 2), none, 0⟩,
    ⟨(some 6), .ld none (.t 5), none, 0⟩,
    ⟨(some 7), .len false (.t 6), none, 0⟩,
    ⟨(some 8), .bin .gtr (.t 7) (.c (.p (.o (.int .i64 256)))), none, 0⟩,
    ⟨(some 9), .mv (.t 8), none, 0⟩,
    ⟨(some 10), .mv (.t 1), (some (9, false)), 0⟩,
    ⟨(some 11), .len false (.t 10), (some (9, false)), 0⟩,
    ⟨(some 12), .bin .gtr (.t 11) (.c (.p (.o (.int .i64 131072)))), (some (9, false)), 0⟩,
    ⟨(some 13), .pick (.t 9) (.c (.p (.o (.bool true)))) (.t 12), none, 0⟩,
    ⟨(some 4), .mv (.t 13), none, 0⟩] 0 none) .ret)),
  [.tmp 4], 14, [0, 1, 2, 4]⟩
theorem ok_law10_Long : cFn Try.prog eqsT newsT vf_law10_Long.keep Try.f25 = some vf_law10_Long := by kernel_rfl
set_option maxHeartbeats 4000000 in
theorem quotes_no (tos id : Int) (hold more : Bool) (at_ ttl proto fr to : Int) (o : ByteArray) (d : ByteArray) (kind code word : Int) (hd : (d.size : Int) ≤ 131072) (ho : (o.size : Int) ≤ 256) (A : ByteArray) (ea : Int) (hea : ¬ ea = 0) (E : Det Try.prog 26 [.a (hdr tos id hold more at_ ttl proto fr to o), .o (.str d)] [] (.t [.o (.str A), .o (.int .i64 ea)]) []) : Can Try.prog 6 [.a (hdr tos id hold more at_ ttl proto fr to o), .o (.str d), .o (.int .u8 kind), .o (.int .u8 code), .o (.int .u32 word)] [] (fun v _ => v = vB true) := by
  refine can_of_W known mix Try.func6 (by kernel_rfl) ok_law14_IcmpQuotes (Nat.le_of_ble_eq_true rfl) ?_
  repeat' ((conv => whnf); first
    | ((with_reducible refine Look.mk ?_); refine ⟨_, rfl, ?_⟩)
    | ((with_reducible refine LookN.zeros ?_))
    | ((with_reducible refine LookN.bytes ?_ ?_); (simp; done))
    | ((with_reducible refine BytesW.bytes ?_))
    | ((with_reducible refine Look.byte ?_ ?_); omega)
    | ((with_reducible refine Look.setb ?_ ?_ ?_); exact bv8_bd _; omega)
    | ((with_reducible refine LookN.setb ?_ ?_ ?_); exact bv8_bd _; omega)
    | ((with_reducible refine LookN.mk ?_); refine ⟨_, rfl, ?_⟩)
    | ((with_reducible refine Need.mk ?_ ?_); first | ((with_reducible refine needB ?_); kernel_rfl) | exact rfl | trivial | omega | exact Nat.le_of_ble_eq_true rfl | (exact ⟨rfl, by omega⟩) | (intro h; first | rfl | cases h) | (simp only [lenS_text, lenS_setN, lenS_zeros]; omega) | (simp only [ByteArray.size_append, size_lit, List.size_toArray, List.length_cons, List.length_nil, Sp.ofB_size, ByteArray.size_extract]; omega))
    | ((with_reducible refine BytesW.mk ?_); refine ⟨_, rfl, ?_⟩)
    | (with_reducible refine CallW.det (E) ?_)
    | (with_reducible refine CallW.det (alive14_det) ?_)
    | (with_reducible refine CallW.can (can_of_W known mix Try.func25 (by kernel_rfl) ok_law10_Long (Nat.le_of_ble_eq_true rfl) ?_) (fun _ _ h => h))
    | ((with_reducible refine Test.tmodEqT ?_ ?_ ?_); omega; focus omega)
    | ((with_reducible refine Test.tmodEqF ?_ ?_ ?_); omega; focus omega)
    | ((with_reducible refine Test.tmodNeT ?_ ?_ ?_); omega; focus omega)
    | ((with_reducible refine Test.tmodNeF ?_ ?_ ?_); omega; focus omega)
    | ((with_reducible refine Test.tmodEq ?_ (fun h => ?_) (fun h => ?_)); omega)
    | ((with_reducible refine Test.tmodNe ?_ (fun h => ?_) (fun h => ?_)); omega)
    | ((with_reducible refine Test.notT ?_ ?_); focus assumption)
    | ((with_reducible refine Test.notF ?_ ?_); focus assumption)
    | (with_reducible refine Test.notIe (fun h => ?_) (fun h => ?_))
    | (with_reducible refine Test.notD (fun h => ?_) (fun h => ?_))
    | ((with_reducible refine Test.empty (fun h => ?_) (fun h => ?_)))
    | (with_reducible refine Test.tt ?_)
    | (with_reducible refine Test.ff ?_)
    | ((with_reducible refine Test.dt ?_ ?_); omega)
    | ((with_reducible refine Test.df ?_ ?_); omega)
    | (with_reducible refine Test.d (fun h => ?_) (fun h => ?_))
    | ((with_reducible refine Test.ieT ?_ ?_); omega)
    | ((with_reducible refine Test.ieF ?_ ?_); omega)
    | ((with_reducible refine Test.neT ?_ ?_); omega)
    | ((with_reducible refine Test.neF ?_ ?_); omega)
    | (with_reducible refine Test.ie (fun h => ?_) (fun h => ?_))
    | (with_reducible refine Test.ne (fun h => ?_) (fun h => ?_))
    | ((with_reducible refine Test.b ?_ ?_); (focus first | assumption | (simp [negB]; done) | exact rfl))
    | ((with_reducible refine Test.nb ?_ ?_); (focus first | assumption | (simp [negB]; done) | exact rfl))
    | (with_reducible refine Test.notS (fun h => ?_) (fun h => ?_))
    | (with_reducible refine Test.mk (fun h => ?_) (fun h => ?_))
    | ((with_reducible refine Arith.tdiv ?_ ?_); omega)
    | (with_reducible refine Arith.bv8 ?_)
    | (with_reducible refine Arith.bv16 ?_)
    | (with_reducible refine Arith.bv32 ?_)
    | (with_reducible refine Arith.bv64 ?_)
    | ((with_reducible refine Arith.i64 ?_ ?_); omega)
    | ((with_reducible refine Arith.u64 ?_ ?_); omega)
    | ((with_reducible refine Arith.u32 ?_ ?_); omega)
    | ((with_reducible refine Arith.u16 ?_ ?_); omega)
    | ((with_reducible refine Arith.u8 ?_ ?_); omega)
    | ((with_reducible refine Arith.i32 ?_ ?_); omega)
    | ((with_reducible refine Arith.i64 ?_ ?_); simp (discharger := omega) only [Int.tdiv_eq_ediv_of_nonneg, shr_u8_4, shl_u8_4, shr_u16_4, shl_u16_4, shr_u16_8, shl_u16_8, shr_u32_4, shl_u32_4, shr_u32_8, shl_u32_8, shr_u32_16, shl_u32_16, shr_u32_24, shl_u32_24, shr_u64_4, shl_u64_4, shr_u64_8, shl_u64_8, shr_u64_16, shl_u64_16, shr_u64_24, shl_u64_24, shr_u64_40, shl_u64_40, shr_i64_4, shl_i64_4, shr_i64_8, shl_i64_8, shr_i64_16, shl_i64_16, shr_i64_24, shl_i64_24, shr_i64_40, shl_i64_40]; omega)
    | ((with_reducible refine Arith.u64 ?_ ?_); simp (discharger := omega) only [Int.tdiv_eq_ediv_of_nonneg, shr_u8_4, shl_u8_4, shr_u16_4, shl_u16_4, shr_u16_8, shl_u16_8, shr_u32_4, shl_u32_4, shr_u32_8, shl_u32_8, shr_u32_16, shl_u32_16, shr_u32_24, shl_u32_24, shr_u64_4, shl_u64_4, shr_u64_8, shl_u64_8, shr_u64_16, shl_u64_16, shr_u64_24, shl_u64_24, shr_u64_40, shl_u64_40, shr_i64_4, shl_i64_4, shr_i64_8, shl_i64_8, shr_i64_16, shl_i64_16, shr_i64_24, shl_i64_24, shr_i64_40, shl_i64_40]; omega)
    | ((with_reducible refine Arith.u32 ?_ ?_); simp (discharger := omega) only [Int.tdiv_eq_ediv_of_nonneg, shr_u8_4, shl_u8_4, shr_u16_4, shl_u16_4, shr_u16_8, shl_u16_8, shr_u32_4, shl_u32_4, shr_u32_8, shl_u32_8, shr_u32_16, shl_u32_16, shr_u32_24, shl_u32_24, shr_u64_4, shl_u64_4, shr_u64_8, shl_u64_8, shr_u64_16, shl_u64_16, shr_u64_24, shl_u64_24, shr_u64_40, shl_u64_40, shr_i64_4, shl_i64_4, shr_i64_8, shl_i64_8, shr_i64_16, shl_i64_16, shr_i64_24, shl_i64_24, shr_i64_40, shl_i64_40]; omega)
    | ((with_reducible refine Arith.u16 ?_ ?_); simp (discharger := omega) only [Int.tdiv_eq_ediv_of_nonneg, shr_u8_4, shl_u8_4, shr_u16_4, shl_u16_4, shr_u16_8, shl_u16_8, shr_u32_4, shl_u32_4, shr_u32_8, shl_u32_8, shr_u32_16, shl_u32_16, shr_u32_24, shl_u32_24, shr_u64_4, shl_u64_4, shr_u64_8, shl_u64_8, shr_u64_16, shl_u64_16, shr_u64_24, shl_u64_24, shr_u64_40, shl_u64_40, shr_i64_4, shl_i64_4, shr_i64_8, shl_i64_8, shr_i64_16, shl_i64_16, shr_i64_24, shl_i64_24, shr_i64_40, shl_i64_40]; omega)
    | ((with_reducible refine Arith.u8 ?_ ?_); simp (discharger := omega) only [Int.tdiv_eq_ediv_of_nonneg, shr_u8_4, shl_u8_4, shr_u16_4, shl_u16_4, shr_u16_8, shl_u16_8, shr_u32_4, shl_u32_4, shr_u32_8, shl_u32_8, shr_u32_16, shl_u32_16, shr_u32_24, shl_u32_24, shr_u64_4, shl_u64_4, shr_u64_8, shl_u64_8, shr_u64_16, shl_u64_16, shr_u64_24, shl_u64_24, shr_u64_40, shl_u64_40, shr_i64_4, shl_i64_4, shr_i64_8, shl_i64_8, shr_i64_16, shl_i64_16, shr_i64_24, shl_i64_24, shr_i64_40, shl_i64_40]; omega)
    | (with_reducible refine Arith.mk ?_)
    | (with_reducible refine Ends.mk ?_))
  all_goals rfl
set_option maxHeartbeats 4000000 in
theorem quotes_b (tos id : Int) (hold more : Bool) (at_ ttl proto fr to : Int) (o : ByteArray) (d : ByteArray) (kind code word : Int) (hd : (d.size : Int) ≤ 131072) (ho : (o.size : Int) ≤ 256) (S : ByteArray) (hS : S.size ≤ 1000000) (E : Det Try.prog 26 [.a (hdr tos id hold more at_ ttl proto fr to o), .o (.str d)] [] (.t [.o (.str S), .o (.int .i64 0)]) []) (R : Det Try.prog 21 [.o (.int .u8 kind), .o (.int .u8 code), .o (.int .u32 word), .o (.str (S ++ ⟨#[98, 101, 104, 105, 110, 100]⟩))] [] (.t [.a (msg 0 0 0 ⟨#[]⟩), .o (.bool false)]) []) : Can Try.prog 6 [.a (hdr tos id hold more at_ ttl proto fr to o), .o (.str d), .o (.int .u8 kind), .o (.int .u8 code), .o (.int .u32 word)] [] (fun v _ => v = vB true) := by
  refine can_of_W known mix Try.func6 (by kernel_rfl) ok_law14_IcmpQuotes (Nat.le_of_ble_eq_true rfl) ?_
  repeat' ((conv => whnf); first
    | ((with_reducible refine Look.mk ?_); refine ⟨_, rfl, ?_⟩)
    | ((with_reducible refine LookN.zeros ?_))
    | ((with_reducible refine LookN.bytes ?_ ?_); (simp; done))
    | ((with_reducible refine BytesW.bytes ?_))
    | ((with_reducible refine Look.byte ?_ ?_); omega)
    | ((with_reducible refine Look.setb ?_ ?_ ?_); exact bv8_bd _; omega)
    | ((with_reducible refine LookN.setb ?_ ?_ ?_); exact bv8_bd _; omega)
    | ((with_reducible refine LookN.mk ?_); refine ⟨_, rfl, ?_⟩)
    | ((with_reducible refine Need.mk ?_ ?_); first | ((with_reducible refine needB ?_); kernel_rfl) | exact rfl | trivial | omega | exact Nat.le_of_ble_eq_true rfl | (exact ⟨rfl, by omega⟩) | (intro h; first | rfl | cases h) | (simp only [lenS_text, lenS_setN, lenS_zeros]; omega) | (simp only [ByteArray.size_append, size_lit, List.size_toArray, List.length_cons, List.length_nil, Sp.ofB_size, ByteArray.size_extract]; omega))
    | ((with_reducible refine BytesW.mk ?_); refine ⟨_, rfl, ?_⟩)
    | (with_reducible refine CallW.det (E) ?_)
    | (with_reducible refine CallW.det (R) ?_)
    | (with_reducible refine CallW.det (alive14_det) ?_)
    | (with_reducible refine CallW.can (can_of_W known mix Try.func25 (by kernel_rfl) ok_law10_Long (Nat.le_of_ble_eq_true rfl) ?_) (fun _ _ h => h))
    | ((with_reducible refine Test.tmodEqT ?_ ?_ ?_); omega; focus omega)
    | ((with_reducible refine Test.tmodEqF ?_ ?_ ?_); omega; focus omega)
    | ((with_reducible refine Test.tmodNeT ?_ ?_ ?_); omega; focus omega)
    | ((with_reducible refine Test.tmodNeF ?_ ?_ ?_); omega; focus omega)
    | ((with_reducible refine Test.tmodEq ?_ (fun h => ?_) (fun h => ?_)); omega)
    | ((with_reducible refine Test.tmodNe ?_ (fun h => ?_) (fun h => ?_)); omega)
    | ((with_reducible refine Test.notT ?_ ?_); focus assumption)
    | ((with_reducible refine Test.notF ?_ ?_); focus assumption)
    | (with_reducible refine Test.notIe (fun h => ?_) (fun h => ?_))
    | (with_reducible refine Test.notD (fun h => ?_) (fun h => ?_))
    | ((with_reducible refine Test.empty (fun h => ?_) (fun h => ?_)))
    | (with_reducible refine Test.tt ?_)
    | (with_reducible refine Test.ff ?_)
    | ((with_reducible refine Test.dt ?_ ?_); omega)
    | ((with_reducible refine Test.df ?_ ?_); omega)
    | (with_reducible refine Test.d (fun h => ?_) (fun h => ?_))
    | ((with_reducible refine Test.ieT ?_ ?_); omega)
    | ((with_reducible refine Test.ieF ?_ ?_); omega)
    | ((with_reducible refine Test.neT ?_ ?_); omega)
    | ((with_reducible refine Test.neF ?_ ?_); omega)
    | (with_reducible refine Test.ie (fun h => ?_) (fun h => ?_))
    | (with_reducible refine Test.ne (fun h => ?_) (fun h => ?_))
    | ((with_reducible refine Test.b ?_ ?_); (focus first | assumption | (simp [negB]; done) | exact rfl))
    | ((with_reducible refine Test.nb ?_ ?_); (focus first | assumption | (simp [negB]; done) | exact rfl))
    | (with_reducible refine Test.notS (fun h => ?_) (fun h => ?_))
    | (with_reducible refine Test.mk (fun h => ?_) (fun h => ?_))
    | ((with_reducible refine Arith.tdiv ?_ ?_); omega)
    | (with_reducible refine Arith.bv8 ?_)
    | (with_reducible refine Arith.bv16 ?_)
    | (with_reducible refine Arith.bv32 ?_)
    | (with_reducible refine Arith.bv64 ?_)
    | ((with_reducible refine Arith.i64 ?_ ?_); omega)
    | ((with_reducible refine Arith.u64 ?_ ?_); omega)
    | ((with_reducible refine Arith.u32 ?_ ?_); omega)
    | ((with_reducible refine Arith.u16 ?_ ?_); omega)
    | ((with_reducible refine Arith.u8 ?_ ?_); omega)
    | ((with_reducible refine Arith.i32 ?_ ?_); omega)
    | ((with_reducible refine Arith.i64 ?_ ?_); simp (discharger := omega) only [Int.tdiv_eq_ediv_of_nonneg, shr_u8_4, shl_u8_4, shr_u16_4, shl_u16_4, shr_u16_8, shl_u16_8, shr_u32_4, shl_u32_4, shr_u32_8, shl_u32_8, shr_u32_16, shl_u32_16, shr_u32_24, shl_u32_24, shr_u64_4, shl_u64_4, shr_u64_8, shl_u64_8, shr_u64_16, shl_u64_16, shr_u64_24, shl_u64_24, shr_u64_40, shl_u64_40, shr_i64_4, shl_i64_4, shr_i64_8, shl_i64_8, shr_i64_16, shl_i64_16, shr_i64_24, shl_i64_24, shr_i64_40, shl_i64_40]; omega)
    | ((with_reducible refine Arith.u64 ?_ ?_); simp (discharger := omega) only [Int.tdiv_eq_ediv_of_nonneg, shr_u8_4, shl_u8_4, shr_u16_4, shl_u16_4, shr_u16_8, shl_u16_8, shr_u32_4, shl_u32_4, shr_u32_8, shl_u32_8, shr_u32_16, shl_u32_16, shr_u32_24, shl_u32_24, shr_u64_4, shl_u64_4, shr_u64_8, shl_u64_8, shr_u64_16, shl_u64_16, shr_u64_24, shl_u64_24, shr_u64_40, shl_u64_40, shr_i64_4, shl_i64_4, shr_i64_8, shl_i64_8, shr_i64_16, shl_i64_16, shr_i64_24, shl_i64_24, shr_i64_40, shl_i64_40]; omega)
    | ((with_reducible refine Arith.u32 ?_ ?_); simp (discharger := omega) only [Int.tdiv_eq_ediv_of_nonneg, shr_u8_4, shl_u8_4, shr_u16_4, shl_u16_4, shr_u16_8, shl_u16_8, shr_u32_4, shl_u32_4, shr_u32_8, shl_u32_8, shr_u32_16, shl_u32_16, shr_u32_24, shl_u32_24, shr_u64_4, shl_u64_4, shr_u64_8, shl_u64_8, shr_u64_16, shl_u64_16, shr_u64_24, shl_u64_24, shr_u64_40, shl_u64_40, shr_i64_4, shl_i64_4, shr_i64_8, shl_i64_8, shr_i64_16, shl_i64_16, shr_i64_24, shl_i64_24, shr_i64_40, shl_i64_40]; omega)
    | ((with_reducible refine Arith.u16 ?_ ?_); simp (discharger := omega) only [Int.tdiv_eq_ediv_of_nonneg, shr_u8_4, shl_u8_4, shr_u16_4, shl_u16_4, shr_u16_8, shl_u16_8, shr_u32_4, shl_u32_4, shr_u32_8, shl_u32_8, shr_u32_16, shl_u32_16, shr_u32_24, shl_u32_24, shr_u64_4, shl_u64_4, shr_u64_8, shl_u64_8, shr_u64_16, shl_u64_16, shr_u64_24, shl_u64_24, shr_u64_40, shl_u64_40, shr_i64_4, shl_i64_4, shr_i64_8, shl_i64_8, shr_i64_16, shl_i64_16, shr_i64_24, shl_i64_24, shr_i64_40, shl_i64_40]; omega)
    | ((with_reducible refine Arith.u8 ?_ ?_); simp (discharger := omega) only [Int.tdiv_eq_ediv_of_nonneg, shr_u8_4, shl_u8_4, shr_u16_4, shl_u16_4, shr_u16_8, shl_u16_8, shr_u32_4, shl_u32_4, shr_u32_8, shl_u32_8, shr_u32_16, shl_u32_16, shr_u32_24, shl_u32_24, shr_u64_4, shl_u64_4, shr_u64_8, shl_u64_8, shr_u64_16, shl_u64_16, shr_u64_24, shl_u64_24, shr_u64_40, shl_u64_40, shr_i64_4, shl_i64_4, shr_i64_8, shl_i64_8, shr_i64_16, shl_i64_16, shr_i64_24, shl_i64_24, shr_i64_40, shl_i64_40]; omega)
    | (with_reducible refine Arith.mk ?_)
    | (with_reducible refine Ends.mk ?_))
  all_goals rfl
set_option maxHeartbeats 4000000 in
theorem quotes_c (tos id : Int) (hold more : Bool) (ttl proto fr to : Int) (o : ByteArray) (d : ByteArray) (kind code word : Int) (hd : (d.size : Int) ≤ 131072) (ho : (o.size : Int) ≤ 256) (S : ByteArray) (hS : S.size ≤ 1000000) (E : Det Try.prog 26 [.a (hdr tos id hold more 0 ttl proto fr to o), .o (.str d)] [] (.t [.o (.str S), .o (.int .i64 0)]) []) (X T Q2 : ByteArray) (hX : (X.size : Int) = 20 + o.size + (d.extract (Int.toNat 0) (Int.toNat (min (d.size : Int) 8))).size) (hF : (d.extract (Int.toNat 0) (Int.toNat (min (d.size : Int) 8))).size ≤ 8) (R : Det Try.prog 21 [.o (.int .u8 kind), .o (.int .u8 code), .o (.int .u32 word), .o (.str (S ++ ⟨#[98, 101, 104, 105, 110, 100]⟩))] [] (.t [.a (msg kind code word X), .o (.bool true)]) []) (Q : Det Try.prog 23 [.a (msg kind code word X)] [] (.t [.a (hdr tos id hold more 0 ttl proto fr to o), .o (.str (d.extract (Int.toNat 0) (Int.toNat (min (d.size : Int) 8)))), .o (.bool true)]) []) (T1 : Det Try.prog 15 [.a (msg kind code word X)] [] (.t [.o (.str T), .o (.int .i64 0)]) []) (G : Det Try.prog 26 [.a (hdr 0 0 false false 0 64 1 fr fr ⟨#[]⟩), .o (.str T)] [] (.t [.o (.str Q2), .o (.int .i64 0)]) []) (R2 : Det Try.prog 21 [.o (.int .u8 3), .o (.int .u8 3), .o (.int .u32 0), .o (.str Q2)] [] (.t [.a (msg 0 0 0 ⟨#[]⟩), .o (.bool false)]) []) : Can Try.prog 6 [.a (hdr tos id hold more 0 ttl proto fr to o), .o (.str d), .o (.int .u8 kind), .o (.int .u8 code), .o (.int .u32 word)] [] (fun v _ => v = vB true) := by
  refine can_of_W known mix Try.func6 (by kernel_rfl) ok_law14_IcmpQuotes (Nat.le_of_ble_eq_true rfl) ?_
  repeat' ((conv => whnf); first
    | ((with_reducible refine Look.mk ?_); refine ⟨_, rfl, ?_⟩)
    | ((with_reducible refine LookN.zeros ?_))
    | ((with_reducible refine LookN.bytes ?_ ?_); (simp; done))
    | ((with_reducible refine BytesW.bytes ?_))
    | ((with_reducible refine Look.byte ?_ ?_); omega)
    | ((with_reducible refine Look.setb ?_ ?_ ?_); exact bv8_bd _; omega)
    | ((with_reducible refine LookN.setb ?_ ?_ ?_); exact bv8_bd _; omega)
    | ((with_reducible refine LookN.mk ?_); refine ⟨_, rfl, ?_⟩)
    | ((with_reducible refine Need.mk ?_ ?_); first | ((with_reducible refine needB ?_); kernel_rfl) | exact rfl | trivial | omega | exact Nat.le_of_ble_eq_true rfl | (exact ⟨rfl, by omega⟩) | (intro h; first | rfl | cases h) | (simp only [lenS_text, lenS_setN, lenS_zeros]; omega) | (simp only [ByteArray.size_append, size_lit, List.size_toArray, List.length_cons, List.length_nil, Sp.ofB_size, ByteArray.size_extract]; omega))
    | ((with_reducible refine BytesW.mk ?_); refine ⟨_, rfl, ?_⟩)
    | (with_reducible refine CallW.det (E) ?_)
    | (with_reducible refine CallW.det (R) ?_)
    | (with_reducible refine CallW.det (Q) ?_)
    | (with_reducible refine CallW.det (T1) ?_)
    | (with_reducible refine CallW.det (G) ?_)
    | (with_reducible refine CallW.det (R2) ?_)
    | (with_reducible refine CallW.det (alive14_det) ?_)
    | (with_reducible refine CallW.can (can_of_W known mix Try.func25 (by kernel_rfl) ok_law10_Long (Nat.le_of_ble_eq_true rfl) ?_) (fun _ _ h => h))
    | ((with_reducible refine Test.tmodEqT ?_ ?_ ?_); omega; focus omega)
    | ((with_reducible refine Test.tmodEqF ?_ ?_ ?_); omega; focus omega)
    | ((with_reducible refine Test.tmodNeT ?_ ?_ ?_); omega; focus omega)
    | ((with_reducible refine Test.tmodNeF ?_ ?_ ?_); omega; focus omega)
    | ((with_reducible refine Test.tmodEq ?_ (fun h => ?_) (fun h => ?_)); omega)
    | ((with_reducible refine Test.tmodNe ?_ (fun h => ?_) (fun h => ?_)); omega)
    | ((with_reducible refine Test.notT ?_ ?_); focus assumption)
    | ((with_reducible refine Test.notF ?_ ?_); focus assumption)
    | (with_reducible refine Test.notIe (fun h => ?_) (fun h => ?_))
    | (with_reducible refine Test.notD (fun h => ?_) (fun h => ?_))
    | ((with_reducible refine Test.empty (fun h => ?_) (fun h => ?_)))
    | (with_reducible refine Test.tt ?_)
    | (with_reducible refine Test.ff ?_)
    | ((with_reducible refine Test.dt ?_ ?_); omega)
    | ((with_reducible refine Test.df ?_ ?_); omega)
    | (with_reducible refine Test.d (fun h => ?_) (fun h => ?_))
    | ((with_reducible refine Test.ieT ?_ ?_); omega)
    | ((with_reducible refine Test.ieF ?_ ?_); omega)
    | ((with_reducible refine Test.neT ?_ ?_); omega)
    | ((with_reducible refine Test.neF ?_ ?_); omega)
    | (with_reducible refine Test.ie (fun h => ?_) (fun h => ?_))
    | (with_reducible refine Test.ne (fun h => ?_) (fun h => ?_))
    | ((with_reducible refine Test.b ?_ ?_); (focus first | assumption | (simp [negB]; done) | exact rfl))
    | ((with_reducible refine Test.nb ?_ ?_); (focus first | assumption | (simp [negB]; done) | exact rfl))
    | (with_reducible refine Test.notS (fun h => ?_) (fun h => ?_))
    | (with_reducible refine Test.mk (fun h => ?_) (fun h => ?_))
    | ((with_reducible refine Arith.tdiv ?_ ?_); omega)
    | (with_reducible refine Arith.bv8 ?_)
    | (with_reducible refine Arith.bv16 ?_)
    | (with_reducible refine Arith.bv32 ?_)
    | (with_reducible refine Arith.bv64 ?_)
    | ((with_reducible refine Arith.i64 ?_ ?_); omega)
    | ((with_reducible refine Arith.u64 ?_ ?_); omega)
    | ((with_reducible refine Arith.u32 ?_ ?_); omega)
    | ((with_reducible refine Arith.u16 ?_ ?_); omega)
    | ((with_reducible refine Arith.u8 ?_ ?_); omega)
    | ((with_reducible refine Arith.i32 ?_ ?_); omega)
    | ((with_reducible refine Arith.i64 ?_ ?_); simp (discharger := omega) only [Int.tdiv_eq_ediv_of_nonneg, shr_u8_4, shl_u8_4, shr_u16_4, shl_u16_4, shr_u16_8, shl_u16_8, shr_u32_4, shl_u32_4, shr_u32_8, shl_u32_8, shr_u32_16, shl_u32_16, shr_u32_24, shl_u32_24, shr_u64_4, shl_u64_4, shr_u64_8, shl_u64_8, shr_u64_16, shl_u64_16, shr_u64_24, shl_u64_24, shr_u64_40, shl_u64_40, shr_i64_4, shl_i64_4, shr_i64_8, shl_i64_8, shr_i64_16, shl_i64_16, shr_i64_24, shl_i64_24, shr_i64_40, shl_i64_40]; omega)
    | ((with_reducible refine Arith.u64 ?_ ?_); simp (discharger := omega) only [Int.tdiv_eq_ediv_of_nonneg, shr_u8_4, shl_u8_4, shr_u16_4, shl_u16_4, shr_u16_8, shl_u16_8, shr_u32_4, shl_u32_4, shr_u32_8, shl_u32_8, shr_u32_16, shl_u32_16, shr_u32_24, shl_u32_24, shr_u64_4, shl_u64_4, shr_u64_8, shl_u64_8, shr_u64_16, shl_u64_16, shr_u64_24, shl_u64_24, shr_u64_40, shl_u64_40, shr_i64_4, shl_i64_4, shr_i64_8, shl_i64_8, shr_i64_16, shl_i64_16, shr_i64_24, shl_i64_24, shr_i64_40, shl_i64_40]; omega)
    | ((with_reducible refine Arith.u32 ?_ ?_); simp (discharger := omega) only [Int.tdiv_eq_ediv_of_nonneg, shr_u8_4, shl_u8_4, shr_u16_4, shl_u16_4, shr_u16_8, shl_u16_8, shr_u32_4, shl_u32_4, shr_u32_8, shl_u32_8, shr_u32_16, shl_u32_16, shr_u32_24, shl_u32_24, shr_u64_4, shl_u64_4, shr_u64_8, shl_u64_8, shr_u64_16, shl_u64_16, shr_u64_24, shl_u64_24, shr_u64_40, shl_u64_40, shr_i64_4, shl_i64_4, shr_i64_8, shl_i64_8, shr_i64_16, shl_i64_16, shr_i64_24, shl_i64_24, shr_i64_40, shl_i64_40]; omega)
    | ((with_reducible refine Arith.u16 ?_ ?_); simp (discharger := omega) only [Int.tdiv_eq_ediv_of_nonneg, shr_u8_4, shl_u8_4, shr_u16_4, shl_u16_4, shr_u16_8, shl_u16_8, shr_u32_4, shl_u32_4, shr_u32_8, shl_u32_8, shr_u32_16, shl_u32_16, shr_u32_24, shl_u32_24, shr_u64_4, shl_u64_4, shr_u64_8, shl_u64_8, shr_u64_16, shl_u64_16, shr_u64_24, shl_u64_24, shr_u64_40, shl_u64_40, shr_i64_4, shl_i64_4, shr_i64_8, shl_i64_8, shr_i64_16, shl_i64_16, shr_i64_24, shl_i64_24, shr_i64_40, shl_i64_40]; omega)
    | ((with_reducible refine Arith.u8 ?_ ?_); simp (discharger := omega) only [Int.tdiv_eq_ediv_of_nonneg, shr_u8_4, shl_u8_4, shr_u16_4, shl_u16_4, shr_u16_8, shl_u16_8, shr_u32_4, shl_u32_4, shr_u32_8, shl_u32_8, shr_u32_16, shl_u32_16, shr_u32_24, shl_u32_24, shr_u64_4, shl_u64_4, shr_u64_8, shl_u64_8, shr_u64_16, shl_u64_16, shr_u64_24, shl_u64_24, shr_u64_40, shl_u64_40, shr_i64_4, shl_i64_4, shr_i64_8, shl_i64_8, shr_i64_16, shl_i64_16, shr_i64_24, shl_i64_24, shr_i64_40, shl_i64_40]; omega)
    | (with_reducible refine Arith.mk ?_)
    | (with_reducible refine Ends.mk ?_))
  all_goals rfl
set_option maxHeartbeats 1000000 in
theorem quotes_far (tos id : Int) (hold more : Bool) (at_ ttl proto fr to : Int) (o : ByteArray) (d : ByteArray) (kind code word : Int) (h : ¬ ((o.size : Int) ≤ 256 ∧ (d.size : Int) ≤ 131072)) : Can Try.prog 6 [.a (hdr tos id hold more at_ ttl proto fr to o), .o (.str d), .o (.int .u8 kind), .o (.int .u8 code), .o (.int .u32 word)] [] (fun v _ => v = vB true) := by
  by_cases h1 : (o.size : Int) ≤ 256
  · refine can_of_W known mix Try.func6 (by kernel_rfl) ok_law14_IcmpQuotes (Nat.le_of_ble_eq_true rfl) ?_
    repeat' ((conv => whnf); first
    | ((with_reducible refine Look.mk ?_); refine ⟨_, rfl, ?_⟩)
    | ((with_reducible refine LookN.zeros ?_))
    | ((with_reducible refine LookN.bytes ?_ ?_); (simp; done))
    | ((with_reducible refine BytesW.bytes ?_))
    | ((with_reducible refine Look.byte ?_ ?_); omega)
    | ((with_reducible refine Look.setb ?_ ?_ ?_); exact bv8_bd _; omega)
    | ((with_reducible refine LookN.setb ?_ ?_ ?_); exact bv8_bd _; omega)
    | ((with_reducible refine LookN.mk ?_); refine ⟨_, rfl, ?_⟩)
    | ((with_reducible refine Need.mk ?_ ?_); first | ((with_reducible refine needB ?_); kernel_rfl) | exact rfl | trivial | omega | exact Nat.le_of_ble_eq_true rfl | (exact ⟨rfl, by omega⟩) | (intro h; first | rfl | cases h) | (simp only [lenS_text, lenS_setN, lenS_zeros]; omega) | (simp only [ByteArray.size_append, size_lit, List.size_toArray, List.length_cons, List.length_nil, Sp.ofB_size, ByteArray.size_extract]; omega))
    | ((with_reducible refine BytesW.mk ?_); refine ⟨_, rfl, ?_⟩)
    | (with_reducible refine CallW.det (alive14_det) ?_)
    | (with_reducible refine CallW.can (can_of_W known mix Try.func25 (by kernel_rfl) ok_law10_Long (Nat.le_of_ble_eq_true rfl) ?_) (fun _ _ h => h))
    | ((with_reducible refine Test.tmodEqT ?_ ?_ ?_); omega; focus omega)
    | ((with_reducible refine Test.tmodEqF ?_ ?_ ?_); omega; focus omega)
    | ((with_reducible refine Test.tmodNeT ?_ ?_ ?_); omega; focus omega)
    | ((with_reducible refine Test.tmodNeF ?_ ?_ ?_); omega; focus omega)
    | ((with_reducible refine Test.tmodEq ?_ (fun h => ?_) (fun h => ?_)); omega)
    | ((with_reducible refine Test.tmodNe ?_ (fun h => ?_) (fun h => ?_)); omega)
    | ((with_reducible refine Test.notT ?_ ?_); focus assumption)
    | ((with_reducible refine Test.notF ?_ ?_); focus assumption)
    | (with_reducible refine Test.notIe (fun h => ?_) (fun h => ?_))
    | (with_reducible refine Test.notD (fun h => ?_) (fun h => ?_))
    | ((with_reducible refine Test.empty (fun h => ?_) (fun h => ?_)))
    | (with_reducible refine Test.tt ?_)
    | (with_reducible refine Test.ff ?_)
    | ((with_reducible refine Test.dt ?_ ?_); omega)
    | ((with_reducible refine Test.df ?_ ?_); omega)
    | (with_reducible refine Test.d (fun h => ?_) (fun h => ?_))
    | ((with_reducible refine Test.ieT ?_ ?_); omega)
    | ((with_reducible refine Test.ieF ?_ ?_); omega)
    | ((with_reducible refine Test.neT ?_ ?_); omega)
    | ((with_reducible refine Test.neF ?_ ?_); omega)
    | (with_reducible refine Test.ie (fun h => ?_) (fun h => ?_))
    | (with_reducible refine Test.ne (fun h => ?_) (fun h => ?_))
    | ((with_reducible refine Test.b ?_ ?_); (focus first | assumption | (simp [negB]; done) | exact rfl))
    | ((with_reducible refine Test.nb ?_ ?_); (focus first | assumption | (simp [negB]; done) | exact rfl))
    | (with_reducible refine Test.notS (fun h => ?_) (fun h => ?_))
    | (with_reducible refine Test.mk (fun h => ?_) (fun h => ?_))
    | ((with_reducible refine Arith.tdiv ?_ ?_); omega)
    | (with_reducible refine Arith.bv8 ?_)
    | (with_reducible refine Arith.bv16 ?_)
    | (with_reducible refine Arith.bv32 ?_)
    | (with_reducible refine Arith.bv64 ?_)
    | ((with_reducible refine Arith.i64 ?_ ?_); omega)
    | ((with_reducible refine Arith.u64 ?_ ?_); omega)
    | ((with_reducible refine Arith.u32 ?_ ?_); omega)
    | ((with_reducible refine Arith.u16 ?_ ?_); omega)
    | ((with_reducible refine Arith.u8 ?_ ?_); omega)
    | ((with_reducible refine Arith.i32 ?_ ?_); omega)
    | ((with_reducible refine Arith.i64 ?_ ?_); simp (discharger := omega) only [Int.tdiv_eq_ediv_of_nonneg, shr_u8_4, shl_u8_4, shr_u16_4, shl_u16_4, shr_u16_8, shl_u16_8, shr_u32_4, shl_u32_4, shr_u32_8, shl_u32_8, shr_u32_16, shl_u32_16, shr_u32_24, shl_u32_24, shr_u64_4, shl_u64_4, shr_u64_8, shl_u64_8, shr_u64_16, shl_u64_16, shr_u64_24, shl_u64_24, shr_u64_40, shl_u64_40, shr_i64_4, shl_i64_4, shr_i64_8, shl_i64_8, shr_i64_16, shl_i64_16, shr_i64_24, shl_i64_24, shr_i64_40, shl_i64_40]; omega)
    | ((with_reducible refine Arith.u64 ?_ ?_); simp (discharger := omega) only [Int.tdiv_eq_ediv_of_nonneg, shr_u8_4, shl_u8_4, shr_u16_4, shl_u16_4, shr_u16_8, shl_u16_8, shr_u32_4, shl_u32_4, shr_u32_8, shl_u32_8, shr_u32_16, shl_u32_16, shr_u32_24, shl_u32_24, shr_u64_4, shl_u64_4, shr_u64_8, shl_u64_8, shr_u64_16, shl_u64_16, shr_u64_24, shl_u64_24, shr_u64_40, shl_u64_40, shr_i64_4, shl_i64_4, shr_i64_8, shl_i64_8, shr_i64_16, shl_i64_16, shr_i64_24, shl_i64_24, shr_i64_40, shl_i64_40]; omega)
    | ((with_reducible refine Arith.u32 ?_ ?_); simp (discharger := omega) only [Int.tdiv_eq_ediv_of_nonneg, shr_u8_4, shl_u8_4, shr_u16_4, shl_u16_4, shr_u16_8, shl_u16_8, shr_u32_4, shl_u32_4, shr_u32_8, shl_u32_8, shr_u32_16, shl_u32_16, shr_u32_24, shl_u32_24, shr_u64_4, shl_u64_4, shr_u64_8, shl_u64_8, shr_u64_16, shl_u64_16, shr_u64_24, shl_u64_24, shr_u64_40, shl_u64_40, shr_i64_4, shl_i64_4, shr_i64_8, shl_i64_8, shr_i64_16, shl_i64_16, shr_i64_24, shl_i64_24, shr_i64_40, shl_i64_40]; omega)
    | ((with_reducible refine Arith.u16 ?_ ?_); simp (discharger := omega) only [Int.tdiv_eq_ediv_of_nonneg, shr_u8_4, shl_u8_4, shr_u16_4, shl_u16_4, shr_u16_8, shl_u16_8, shr_u32_4, shl_u32_4, shr_u32_8, shl_u32_8, shr_u32_16, shl_u32_16, shr_u32_24, shl_u32_24, shr_u64_4, shl_u64_4, shr_u64_8, shl_u64_8, shr_u64_16, shl_u64_16, shr_u64_24, shl_u64_24, shr_u64_40, shl_u64_40, shr_i64_4, shl_i64_4, shr_i64_8, shl_i64_8, shr_i64_16, shl_i64_16, shr_i64_24, shl_i64_24, shr_i64_40, shl_i64_40]; omega)
    | ((with_reducible refine Arith.u8 ?_ ?_); simp (discharger := omega) only [Int.tdiv_eq_ediv_of_nonneg, shr_u8_4, shl_u8_4, shr_u16_4, shl_u16_4, shr_u16_8, shl_u16_8, shr_u32_4, shl_u32_4, shr_u32_8, shl_u32_8, shr_u32_16, shl_u32_16, shr_u32_24, shl_u32_24, shr_u64_4, shl_u64_4, shr_u64_8, shl_u64_8, shr_u64_16, shl_u64_16, shr_u64_24, shl_u64_24, shr_u64_40, shl_u64_40, shr_i64_4, shl_i64_4, shr_i64_8, shl_i64_8, shr_i64_16, shl_i64_16, shr_i64_24, shl_i64_24, shr_i64_40, shl_i64_40]; omega)
    | (with_reducible refine Arith.mk ?_)
    | (with_reducible refine Ends.mk ?_))
    all_goals rfl
  · refine can_of_W known mix Try.func6 (by kernel_rfl) ok_law14_IcmpQuotes (Nat.le_of_ble_eq_true rfl) ?_
    repeat' ((conv => whnf); first
    | ((with_reducible refine Look.mk ?_); refine ⟨_, rfl, ?_⟩)
    | ((with_reducible refine LookN.zeros ?_))
    | ((with_reducible refine LookN.bytes ?_ ?_); (simp; done))
    | ((with_reducible refine BytesW.bytes ?_))
    | ((with_reducible refine Look.byte ?_ ?_); omega)
    | ((with_reducible refine Look.setb ?_ ?_ ?_); exact bv8_bd _; omega)
    | ((with_reducible refine LookN.setb ?_ ?_ ?_); exact bv8_bd _; omega)
    | ((with_reducible refine LookN.mk ?_); refine ⟨_, rfl, ?_⟩)
    | ((with_reducible refine Need.mk ?_ ?_); first | ((with_reducible refine needB ?_); kernel_rfl) | exact rfl | trivial | omega | exact Nat.le_of_ble_eq_true rfl | (exact ⟨rfl, by omega⟩) | (intro h; first | rfl | cases h) | (simp only [lenS_text, lenS_setN, lenS_zeros]; omega) | (simp only [ByteArray.size_append, size_lit, List.size_toArray, List.length_cons, List.length_nil, Sp.ofB_size, ByteArray.size_extract]; omega))
    | ((with_reducible refine BytesW.mk ?_); refine ⟨_, rfl, ?_⟩)
    | (with_reducible refine CallW.det (alive14_det) ?_)
    | (with_reducible refine CallW.can (can_of_W known mix Try.func25 (by kernel_rfl) ok_law10_Long (Nat.le_of_ble_eq_true rfl) ?_) (fun _ _ h => h))
    | ((with_reducible refine Test.tmodEqT ?_ ?_ ?_); omega; focus omega)
    | ((with_reducible refine Test.tmodEqF ?_ ?_ ?_); omega; focus omega)
    | ((with_reducible refine Test.tmodNeT ?_ ?_ ?_); omega; focus omega)
    | ((with_reducible refine Test.tmodNeF ?_ ?_ ?_); omega; focus omega)
    | ((with_reducible refine Test.tmodEq ?_ (fun h => ?_) (fun h => ?_)); omega)
    | ((with_reducible refine Test.tmodNe ?_ (fun h => ?_) (fun h => ?_)); omega)
    | ((with_reducible refine Test.notT ?_ ?_); focus assumption)
    | ((with_reducible refine Test.notF ?_ ?_); focus assumption)
    | (with_reducible refine Test.notIe (fun h => ?_) (fun h => ?_))
    | (with_reducible refine Test.notD (fun h => ?_) (fun h => ?_))
    | ((with_reducible refine Test.empty (fun h => ?_) (fun h => ?_)))
    | (with_reducible refine Test.tt ?_)
    | (with_reducible refine Test.ff ?_)
    | ((with_reducible refine Test.dt ?_ ?_); omega)
    | ((with_reducible refine Test.df ?_ ?_); omega)
    | (with_reducible refine Test.d (fun h => ?_) (fun h => ?_))
    | ((with_reducible refine Test.ieT ?_ ?_); omega)
    | ((with_reducible refine Test.ieF ?_ ?_); omega)
    | ((with_reducible refine Test.neT ?_ ?_); omega)
    | ((with_reducible refine Test.neF ?_ ?_); omega)
    | (with_reducible refine Test.ie (fun h => ?_) (fun h => ?_))
    | (with_reducible refine Test.ne (fun h => ?_) (fun h => ?_))
    | ((with_reducible refine Test.b ?_ ?_); (focus first | assumption | (simp [negB]; done) | exact rfl))
    | ((with_reducible refine Test.nb ?_ ?_); (focus first | assumption | (simp [negB]; done) | exact rfl))
    | (with_reducible refine Test.notS (fun h => ?_) (fun h => ?_))
    | (with_reducible refine Test.mk (fun h => ?_) (fun h => ?_))
    | ((with_reducible refine Arith.tdiv ?_ ?_); omega)
    | (with_reducible refine Arith.bv8 ?_)
    | (with_reducible refine Arith.bv16 ?_)
    | (with_reducible refine Arith.bv32 ?_)
    | (with_reducible refine Arith.bv64 ?_)
    | ((with_reducible refine Arith.i64 ?_ ?_); omega)
    | ((with_reducible refine Arith.u64 ?_ ?_); omega)
    | ((with_reducible refine Arith.u32 ?_ ?_); omega)
    | ((with_reducible refine Arith.u16 ?_ ?_); omega)
    | ((with_reducible refine Arith.u8 ?_ ?_); omega)
    | ((with_reducible refine Arith.i32 ?_ ?_); omega)
    | ((with_reducible refine Arith.i64 ?_ ?_); simp (discharger := omega) only [Int.tdiv_eq_ediv_of_nonneg, shr_u8_4, shl_u8_4, shr_u16_4, shl_u16_4, shr_u16_8, shl_u16_8, shr_u32_4, shl_u32_4, shr_u32_8, shl_u32_8, shr_u32_16, shl_u32_16, shr_u32_24, shl_u32_24, shr_u64_4, shl_u64_4, shr_u64_8, shl_u64_8, shr_u64_16, shl_u64_16, shr_u64_24, shl_u64_24, shr_u64_40, shl_u64_40, shr_i64_4, shl_i64_4, shr_i64_8, shl_i64_8, shr_i64_16, shl_i64_16, shr_i64_24, shl_i64_24, shr_i64_40, shl_i64_40]; omega)
    | ((with_reducible refine Arith.u64 ?_ ?_); simp (discharger := omega) only [Int.tdiv_eq_ediv_of_nonneg, shr_u8_4, shl_u8_4, shr_u16_4, shl_u16_4, shr_u16_8, shl_u16_8, shr_u32_4, shl_u32_4, shr_u32_8, shl_u32_8, shr_u32_16, shl_u32_16, shr_u32_24, shl_u32_24, shr_u64_4, shl_u64_4, shr_u64_8, shl_u64_8, shr_u64_16, shl_u64_16, shr_u64_24, shl_u64_24, shr_u64_40, shl_u64_40, shr_i64_4, shl_i64_4, shr_i64_8, shl_i64_8, shr_i64_16, shl_i64_16, shr_i64_24, shl_i64_24, shr_i64_40, shl_i64_40]; omega)
    | ((with_reducible refine Arith.u32 ?_ ?_); simp (discharger := omega) only [Int.tdiv_eq_ediv_of_nonneg, shr_u8_4, shl_u8_4, shr_u16_4, shl_u16_4, shr_u16_8, shl_u16_8, shr_u32_4, shl_u32_4, shr_u32_8, shl_u32_8, shr_u32_16, shl_u32_16, shr_u32_24, shl_u32_24, shr_u64_4, shl_u64_4, shr_u64_8, shl_u64_8, shr_u64_16, shl_u64_16, shr_u64_24, shl_u64_24, shr_u64_40, shl_u64_40, shr_i64_4, shl_i64_4, shr_i64_8, shl_i64_8, shr_i64_16, shl_i64_16, shr_i64_24, shl_i64_24, shr_i64_40, shl_i64_40]; omega)
    | ((with_reducible refine Arith.u16 ?_ ?_); simp (discharger := omega) only [Int.tdiv_eq_ediv_of_nonneg, shr_u8_4, shl_u8_4, shr_u16_4, shl_u16_4, shr_u16_8, shl_u16_8, shr_u32_4, shl_u32_4, shr_u32_8, shl_u32_8, shr_u32_16, shl_u32_16, shr_u32_24, shl_u32_24, shr_u64_4, shl_u64_4, shr_u64_8, shl_u64_8, shr_u64_16, shl_u64_16, shr_u64_24, shl_u64_24, shr_u64_40, shl_u64_40, shr_i64_4, shl_i64_4, shr_i64_8, shl_i64_8, shr_i64_16, shl_i64_16, shr_i64_24, shl_i64_24, shr_i64_40, shl_i64_40]; omega)
    | ((with_reducible refine Arith.u8 ?_ ?_); simp (discharger := omega) only [Int.tdiv_eq_ediv_of_nonneg, shr_u8_4, shl_u8_4, shr_u16_4, shl_u16_4, shr_u16_8, shl_u16_8, shr_u32_4, shl_u32_4, shr_u32_8, shl_u32_8, shr_u32_16, shl_u32_16, shr_u32_24, shl_u32_24, shr_u64_4, shl_u64_4, shr_u64_8, shl_u64_8, shr_u64_16, shl_u64_16, shr_u64_24, shl_u64_24, shr_u64_40, shl_u64_40, shr_i64_4, shl_i64_4, shr_i64_8, shl_i64_8, shr_i64_16, shl_i64_16, shr_i64_24, shl_i64_24, shr_i64_40, shl_i64_40]; omega)
    | (with_reducible refine Arith.mk ?_)
    | (with_reducible refine Ends.mk ?_))
    all_goals rfl
theorem errD_eq (p o d : ByteArray) (Hd : ByteArray) (h : p.extract 0 (20 + o.size) = Hd) : errD p o d = Hd ++ (d.extract (Int.toNat 0) (Int.toNat (min (d.size : Int) 8))) := by
  unfold errD
  rw [show (20 + (o.size : Int)).toNat = 20 + o.size by omega, show Int.toNat 0 = 0 from rfl, h]
/-- A head's quote is read. -/
theorem quo_own (tos id : Int) (hold more : Bool) (ttl proto fr to : Int) (o r : ByteArray) (dl kind : Int) (X : ByteArray) (h : Says10 X tos id hold more 0 ttl proto fr to o r dl) (hk : kind = 3 ∨ kind = 11 ∨ kind = 12) (ho : (o.size : Int) ≤ 40) (ho4 : (o.size : Int) % 4 = 0) :
    quoP kind X ∧ quo14 kind X = hdr tos id hold more 0 ttl proto fr to o ∧ quo14d kind X = r := by
  have hz := h.size
  have e1 := h.hl ho ho4
  have e2 : (hl10 X).toNat = 20 + o.size := by omega
  have e6 : X.extract (Int.toNat 20) (20 + o.size) = o := h.ho
  have e8 : Sp.sumB (X.extract (Int.toNat 0) (hl10 X).toNat) = 65535 := by rw [e2, show X.extract (Int.toNat 0) (20 + o.size) = _ from h.hh]; exact header10_sum _ _ _ _ _ _ _ _ _ _ _ ho
  have e9 : n2 X 6 % 8192 = 0 := by rw [h.hfl, flags10_at _ _ _ (by omega)]; rfl
  have q : quoP kind X := ⟨hk, by omega, by rw [h.b0]; omega, by omega, by omega, e8, e9⟩
  refine ⟨q, ?_, ?_⟩
  · unfold quo14
    rw [if_pos q, e2, e6, h.hhold (by omega), h.hmore (by omega), h.htos, h.hid, h.httl, h.hproto, h.hfr, h.hto]
  · unfold quo14d
    rw [if_pos q, e2, hz, h.hr]
    apply ba_ext
    rw [Sp.extract_toList, List.take_of_length_le (by rw [Sp.size_toList]; exact Nat.le_refl _), List.drop_zero]
theorem may10_nil : may10 0 ⟨#[]⟩ = true := by decide
theorem quotes14_row (tos id : Int) (hold more : Bool) (at_ ttl proto fr to : Int) (o : ByteArray) (d : ByteArray) (kind code word : Int) (w_ : World) (htos : 0 ≤ tos ∧ tos ≤ 255) (hid : 0 ≤ id ∧ id ≤ 65535) (hat : -9223372036854775808 ≤ at_ ∧ at_ ≤ 9223372036854775807) (httl : 0 ≤ ttl ∧ ttl ≤ 255) (hproto : 0 ≤ proto ∧ proto ≤ 255) (hfr : 0 ≤ fr ∧ fr ≤ 4294967295) (hto : 0 ≤ to ∧ to ≤ 4294967295) (ho_ : o.size ≤ maxLen) (hd_ : d.size ≤ maxLen) (hk : 0 ≤ kind ∧ kind ≤ 255) (hc : 0 ≤ code ∧ code ≤ 255) (hw : 0 ≤ word ∧ word ≤ 4294967295) :
    Calls Try.prog 6 #[.agg #[.int .u8 tos, .int .u16 id, .bool hold, .bool more, .int .i64 at_, .int .u8 ttl, .int .u8 proto, .int .u32 fr, .int .u32 to, .string o], .string d, .int .u8 kind, .int .u8 code, .int .u32 word] w_ fun e w' => e = .returned (.bool true) ∧ Below w_.heap.size w_ w' := by
  by_cases h : (o.size : Int) ≤ 256 ∧ (d.size : Int) ≤ 131072
  · obtain ⟨hos, hds⟩ := h
    have E := enc_det tos id hold more at_ ttl proto fr to o d htos hid hat httl hproto hfr hto (by omega) (by omega)
    by_cases he : enc10e more at_ o d = 0
    · obtain ⟨hm, hwh, hf⟩ := enc10_ok he
      have hmb := may10_bd hm
      have hfb := of_decide_eq_true hf
      have hS : enc10 tos id hold more at_ ttl proto fr to o d = header10 tos id hold more at_ ttl proto fr to o d.size ++ d := if_pos he
      rw [hS, he] at E
      have hhz := header10_size tos id hold more at_ ttl proto fr to o d.size
      have hP : header10 tos id hold more at_ ttl proto fr to o d.size ++ d ++ ⟨#[98, 101, 104, 105, 110, 100]⟩ = header10 tos id hold more at_ ttl proto fr to o d.size ++ (d ++ ⟨#[98, 101, 104, 105, 110, 100]⟩) := app_assoc _ _ _
      have hz2 : (d ++ ⟨#[98, 101, 104, 105, 110, 100]⟩).size = d.size + 6 := ByteArray.size_append
      have SP := says10 tos id hold more at_ ttl proto fr to o (d ++ ⟨#[98, 101, 104, 105, 110, 100]⟩) d.size htos hid (by omega) httl hproto hfr hto hmb.2.2.2.1 (by omega)
      rw [← hP] at SP
      obtain ⟨d1, d2, d3⟩ := SP.dec hm hwh hf (by omega) (by omega)
      have hx : (d ++ ⟨#[98, 101, 104, 105, 110, 100]⟩).extract 0 (d.size : Int).toNat = d := Sp.extract_append_left d ⟨#[98, 101, 104, 105, 110, 100]⟩
      rw [hx] at d3
      obtain ⟨S, hSS⟩ : ∃ S, S = header10 tos id hold more at_ ttl proto fr to o d.size ++ d := ⟨_, rfl⟩
      have hSz : S.size = 20 + o.size + d.size := by rw [hSS, ByteArray.size_append, hhz]
      rw [← hSS] at E SP d1 d2 d3
      have hpz : (S ++ ⟨#[98, 101, 104, 105, 110, 100]⟩).size = S.size + 6 := ByteArray.size_append
      have D := dec_det (S ++ ⟨#[98, 101, 104, 105, 110, 100]⟩) (by omega)
      rw [d1, d2, d3] at D
      have R := error_det kind code word (S ++ ⟨#[98, 101, 104, 105, 110, 100]⟩) hk (by omega) _ _ _ _ _ _ _ _ _ _ d _ hfr hto (fun _ => by omega) (by omega) (by omega) D
      by_cases hp : errP kind 0 at_ fr to proto d
      · have ha0 : at_ = 0 := by have := hp.2.2.1; omega
        subst ha0
        rw [show err14 kind code word 0 0 fr to proto (S ++ ⟨#[98, 101, 104, 105, 110, 100]⟩) o d = _ from if_pos hp, decide_eq_true hp, errD_eq _ _ _ _ SP.hh] at R
        have SX := says10 tos id hold more 0 ttl proto fr to o (d.extract (Int.toNat 0) (Int.toNat (min (d.size : Int) 8))) d.size htos hid (by omega) httl hproto hfr hto hmb.2.2.2.1 (by omega)
        have hXz := SX.size
        obtain ⟨q1, q2, q3⟩ := quo_own tos id hold more ttl proto fr to o (d.extract (Int.toNat 0) (Int.toNat (min (d.size : Int) 8))) d.size kind _ SX hp.1 hmb.2.2.2.1 hmb.2.2.2.2
        have hFz : (d.extract (Int.toNat 0) (Int.toNat (min (d.size : Int) 8))).size ≤ 8 := by rw [ByteArray.size_extract]; omega
        generalize header10 tos id hold more 0 ttl proto fr to o d.size ++ (d.extract (Int.toNat 0) (Int.toNat (min (d.size : Int) 8))) = X at *
        have Q := quoted_det kind code word X hk (by omega)
        rw [q2, q3, decide_eq_true q1] at Q
        have T1 := enc14_det kind code word X hk hc hw (by omega)
        rw [show enc14 kind code word X = raw14 kind code word X from if_neg (by omega), show enc14e X = 0 from if_neg (by omega)] at T1
        have hTz := raw14_size kind code word X
        obtain ⟨c1, c2, hTl⟩ := raw14_list kind code word X
        have hT0 : bAt (raw14 kind code word X) (Int.toNat 0) = kind := by
          rw [bAt_list hTl]
          simp only [show Int.toNat 0 = 0 from rfl, List.cons_append, List.getElem?_cons_zero, List.getElem?_cons_succ, Option.getD_some]; exact u8i _ hk
        generalize raw14 kind code word X = T at *
        have hm2 : may10 0 ⟨#[]⟩ = true := may10_nil
        have hf2 : fits10 0 T.size ⟨#[]⟩ = true := decide_eq_true (by show (0 : Int) + T.size ≤ 65515 - 0; omega)
        have G := enc_det 0 0 false false 0 64 1 fr fr ⟨#[]⟩ T (by omega) (by omega) (by omega) (by omega) (by omega) hfr hfr (by omega) (by decide)
        rw [enc10_yes hm2 rfl hf2, show enc10 0 0 false false 0 64 1 fr fr ⟨#[]⟩ T = header10 0 0 false false 0 64 1 fr fr ⟨#[]⟩ T.size ++ T from if_pos (enc10_yes hm2 rfl hf2)] at G
        have S2 := says10 0 0 false false 0 64 1 fr fr ⟨#[]⟩ T T.size (by omega) (by omega) (by omega) (by omega) (by omega) hfr hfr (by decide) (by show (0 : Int) ≤ T.size ∧ 20 + (0 : Int) + T.size ≤ 65535; omega)
        have hz3 := S2.size
        obtain ⟨f1, f2, f3⟩ := S2.dec hm2 rfl hf2 (by omega) (by omega)
        have hx2 : T.extract 0 (T.size : Int).toNat = T := by
          apply ba_ext
          rw [Sp.extract_toList, List.take_of_length_le (by rw [Sp.size_toList]; omega), List.drop_zero]
        rw [hx2] at f3
        have hnil : (ByteArray.mk #[]).size = 0 := rfl
        generalize header10 0 0 false false 0 64 1 fr fr ⟨#[]⟩ T.size ++ T = Q2 at *
        have D2 := dec_det Q2 (by omega)
        rw [f1, f2, f3] at D2
        have R2 := error_det 3 3 0 Q2 (by omega) (by omega) _ _ _ _ _ _ _ _ _ _ T _ hfr hfr (fun _ => by omega) (by decide) (by omega) D2
        have hn : ¬ errP 3 0 0 fr fr 1 T := fun e => by
          have h1 := e.2.2.2.2.2.2
          have h2 := hp.1
          rw [hT0] at h1
          omega
        rw [show err14 3 3 0 0 0 fr fr 1 Q2 ⟨#[]⟩ T = _ from if_neg hn, decide_eq_false hn] at R2
        exact calls_of_can (quotes_c tos id hold more ttl proto fr to o d kind code word (by omega) (by omega) S (by omega) E X T Q2 (by omega) hFz R Q T1 G R2) rfl rfl w_
      · rw [show err14 kind code word 0 at_ fr to proto (S ++ ⟨#[98, 101, 104, 105, 110, 100]⟩) o d = _ from if_neg hp, decide_eq_false hp] at R
        exact calls_of_can (quotes_b tos id hold more at_ ttl proto fr to o d kind code word (by omega) (by omega) S (by omega) E R) rfl rfl w_
    · exact calls_of_can (quotes_no tos id hold more at_ ttl proto fr to o d kind code word (by omega) (by omega) _ _ he E) rfl rfl w_
  · exact calls_of_can (quotes_far tos id hold more at_ ttl proto fr to o d kind code word h) rfl rfl w_
end G2
end Go.Proofs.Ytnmeeafnobfobaa.VM
