/- law 10 by the evaluator: the law IpNew. -/
import Derived.Test.YtnmeeafnobfobaaP10n
namespace Go.Proofs.Ytnmeeafnobfobaa.VM
namespace G2
open Go.RowKit
set_option linter.unusedVariables false
set_option linter.unusedSimpArgs false
set_option maxRecDepth 100000
def vf_law10_IpNew : VFn := ⟨(.seq (.reg [
    ⟨(some 4), .box (.t 0), none, 0⟩,
    ⟨(some 8), .mv (.c (.p (.o (.bool false)))), none, 1⟩] 1 none) (.seq (.seq (.reg [
    ⟨(some 24), .ld (some 10) (.t 4), none, 0⟩,
    ⟨(some 25), .mv (.t 1), none, 0⟩,
    ⟨(some 26), .call 25 [(.t 24), (.t 25)] 0, none, 0⟩] 0 none) (.cond (.t 26) (.seq (.reg [
    ⟨(some 27), .call 27 [] 0, none, 0⟩,
    ⟨(some 8), .mv (.t 27), none, 0⟩] 0 none) .ret) .skip)) (.seq (.reg [
    ⟨(some 29), .ld (some 10) (.t 4), none, 0⟩,
    ⟨(some 30), .mv (.t 1), none, 0⟩,
    ⟨(some 31), .call 26 [(.t 29), (.t 30)] 0, none, 0⟩,
    ⟨(some 28), .mv (.t 31), none, 0⟩,
    ⟨(some 32), .ext 0 (.t 28), none, 0⟩,
    ⟨(some 33), .ext 1 (.t 28), none, 0⟩,
    ⟨(some 9), .mv (.t 32), none, 0⟩,
    ⟨(some 10), .mv (.t 33), none, 0⟩] 0 none) (.seq (.seq (.reg [
    ⟨(some 34), .mv (.t 10), none, 0⟩,
    ⟨(some 35), .bin .neq (.t 34) (.c (.p (.o (.int .i64 0)))), none, 0⟩] 0 none) (.cond (.t 35) (.seq (.reg [
    ⟨(some 36), .call 27 [] 0, none, 0⟩,
    ⟨(some 8), .mv (.t 36), none, 0⟩] 0 none) .ret) .skip)) (.seq (.reg [
    ⟨(some 38), .mv (.t 9), none, 0⟩,
    ⟨(some 39), .bin .add (.t 38) (.c (.p (.o (.str ⟨#[98, 101, 104, 105, 110, 100]⟩)))), none, 0⟩,
    ⟨(some 40), .call 33 [(.t 39)] 0, none, 0⟩,
    ⟨(some 37), .mv (.t 40), none, 0⟩,
    ⟨(some 41), .ext 0 (.t 37), none, 0⟩,
    ⟨(some 42), .ext 1 (.t 37), none, 0⟩,
    ⟨(some 11), .mv (.t 41), none, 0⟩,
    ⟨(some 12), .mv (.t 42), none, 0⟩] 0 none) (.seq (.seq (.reg [
    ⟨(some 43), .mv (.t 12), none, 0⟩,
    ⟨(some 44), .bin .eql (.t 43) (.c (.p (.o (.int .i64 0)))), none, 0⟩,
    ⟨(some 45), .fad 5 (.t 4), none, 0⟩,
    ⟨(some 46), .ld none (.t 45), none, 0⟩,
    ⟨(some 47), .bin .gtr (.t 46) (.c (.p (.o (.int .u8 1)))), none, 0⟩,
    ⟨(some 48), .eq .bool true (.t 44) (.t 47), none, 0⟩,
    ⟨(some 49), .mv (.t 48), none, 0⟩,
    ⟨(some 50), .mv (.t 12), (some (49, false)), 0⟩,
    ⟨(some 51), .bin .neq (.t 50) (.c (.p (.o (.int .i64 0)))), (some (49, false)), 0⟩,
    ⟨(some 52), .mv (.t 51), (some (49, false)), 0⟩,
    ⟨(some 53), .mv (.t 12), (some (52, true)), 0⟩,
    ⟨(some 54), .bin .neq (.t 53) (.c (.p (.o (.int .i64 9)))), (some (52, true)), 0⟩,
    ⟨(some 55), .pick (.t 52) (.t 54) (.c (.p (.o (.bool false)))), (some (49, false)), 0⟩,
    ⟨(some 56), .pick (.t 49) (.c (.p (.o (.bool true)))) (.t 55), none, 0⟩] 0 none) (.cond (.t 56) (.seq (.reg [
    ⟨(some 8), .mv (.c (.p (.o (.bool false)))), none, 0⟩] 0 none) .ret) .skip)) (.seq (.seq (.reg [
    ⟨(some 57), .mv (.t 12), none, 0⟩,
    ⟨(some 58), .bin .eql (.t 57) (.c (.p (.o (.int .i64 0)))), none, 0⟩] 0 none) (.cond (.t 58) (.seq (.reg [
    ⟨(some 59), .ld (some 10) (.t 4), none, 0⟩,
    ⟨(some 13), .new [.int .u8 0, .int .u16 0, .bool false, .bool false, .int .i64 0, .int .u8 0, .int .u8 0, .int .u32 0, .int .u32 0, .str ⟨#[]⟩], none, 0⟩,
    ⟨none, .st 10 (.t 13) (.t 59), none, 1⟩] 1 none) (.seq (.reg [
    ⟨(some 60), .fad 5 (.t 13), none, 0⟩,
    ⟨(some 61), .ld none (.t 60), none, 0⟩,
    ⟨(some 62), .bin .sub (.t 61) (.c (.p (.o (.int .u8 1)))), none, 0⟩,
    ⟨(some 63), .fad 5 (.t 13), none, 0⟩,
    ⟨none, .st 1 (.t 63) (.t 62), none, 0⟩] 0 none) (.seq (.reg [
    ⟨(some 65), .ld (some 10) (.t 13), none, 0⟩,
    ⟨(some 66), .mv (.t 1), none, 0⟩,
    ⟨(some 67), .call 26 [(.t 65), (.t 66)] 0, none, 0⟩,
    ⟨(some 64), .mv (.t 67), none, 0⟩,
    ⟨(some 68), .ext 0 (.t 64), none, 0⟩,
    ⟨(some 69), .ext 1 (.t 64), none, 0⟩,
    ⟨(some 14), .mv (.t 68), none, 0⟩,
    ⟨(some 15), .mv (.t 69), none, 0⟩] 0 none) (.seq (.reg [
    ⟨(some 70), .mv (.t 11), none, 0⟩,
    ⟨(some 71), .mv (.t 14), none, 0⟩,
    ⟨(some 72), .bin .neq (.t 70) (.t 71), none, 0⟩] 0 none) (.cond (.t 72) (.seq (.reg [
    ⟨(some 8), .mv (.c (.p (.o (.bool false)))), none, 0⟩] 0 none) .ret) .skip))))) .skip)) (.seq (.reg [
    ⟨(some 16), .mv (.c (.p (.o (.int .i64 0)))), none, 0⟩] 0 none) (.seq (.block 0 (.loop (.seq (.seq (.reg [
    ⟨(some 73), .mv (.t 12), none, 0⟩,
    ⟨(some 74), .bin .eql (.t 73) (.c (.p (.o (.int .i64 0)))), none, 0⟩,
    ⟨(some 75), .mv (.t 74), none, 0⟩,
    ⟨(some 76), .mv (.t 16), (some (75, true)), 0⟩,
    ⟨(some 77), .bin .lss (.t 76) (.c (.p (.o (.int .i64 300)))), (some (75, true)), 0⟩,
    ⟨(some 78), .pick (.t 75) (.t 77) (.c (.p (.o (.bool false)))), none, 0⟩,
    ⟨(some 79), .mv (.t 78), none, 0⟩,
    ⟨(some 80), .mv (.t 9), (some (79, true)), 0⟩,
    ⟨(some 81), .len false (.t 80), (some (79, true)), 0⟩,
    ⟨(some 82), .bin .lss (.t 81) (.c (.p (.o (.int .i64 512)))), (some (79, true)), 0⟩,
    ⟨(some 83), .pick (.t 79) (.t 82) (.c (.p (.o (.bool false)))), none, 0⟩] 0 none) (.cond (.t 83) .skip (.exit 0))) (.block 1 (.seq (.reg [
    ⟨(some 84), .mv (.t 16), none, 0⟩,
    ⟨(some 85), .bin .add (.t 84) (.c (.p (.o (.int .i64 1)))), none, 0⟩,
    ⟨(some 16), .mv (.t 85), none, 0⟩] 0 none) (.seq (.reg [
    ⟨(some 87), .mv (.t 11), none, 0⟩,
    ⟨(some 88), .call 33 [(.t 87)] 0, none, 0⟩,
    ⟨(some 86), .mv (.t 88), none, 0⟩,
    ⟨(some 89), .ext 0 (.t 86), none, 0⟩,
    ⟨(some 90), .ext 1 (.t 86), none, 0⟩,
    ⟨(some 17), .mv (.t 89), none, 0⟩,
    ⟨(some 18), .mv (.t 90), none, 0⟩] 0 none) (.seq (.reg [
    ⟨(some 91), .mv (.t 17), none, 0⟩,
    ⟨(some 11), .mv (.t 91), none, 0⟩] 0 none) (.reg [
    ⟨(some 92), .mv (.t 18), none, 0⟩,
    ⟨(some 12), .mv (.t 92), none, 0⟩] 0 none)))))))) (.seq (.seq (.reg [
    ⟨(some 93), .mv (.t 9), none, 0⟩,
    ⟨(some 94), .len false (.t 93), none, 0⟩,
    ⟨(some 95), .bin .lss (.t 94) (.c (.p (.o (.int .i64 512)))), none, 0⟩,
    ⟨(some 96), .mv (.t 95), none, 0⟩,
    ⟨(some 97), .fad 5 (.t 4), (some (96, true)), 0⟩,
    ⟨(some 98), .ld none (.t 97), (some (96, true)), 0⟩,
    ⟨(some 99), .bin .gtr (.t 98) (.c (.p (.o (.int .u8 1)))), (some (96, true)), 0⟩,
    ⟨(some 100), .pick (.t 96) (.t 99) (.c (.p (.o (.bool false)))), none, 0⟩,
    ⟨(some 101), .mv (.t 100), none, 0⟩,
    ⟨(some 102), .mv (.t 16), (some (101, true)), 0⟩,
    ⟨(some 103), .fad 5 (.t 4), (some (101, true)), 0⟩,
    ⟨(some 104), .ld none (.t 103), (some (101, true)), 0⟩,
    ⟨(some 105), .cvi .i64 (.t 104), (some (101, true)), 0⟩,
    ⟨(some 106), .bin .sub (.t 105) (.c (.p (.o (.int .i64 1)))), (some (101, true)), 0⟩,
    ⟨(some 107), .bin .neq (.t 102) (.t 106), (some (101, true)), 0⟩,
    ⟨(some 108), .pick (.t 101) (.t 107) (.c (.p (.o (.bool false)))), none, 0⟩] 0 none) (.cond (.t 108) (.seq (.reg [
    ⟨(some 8), .mv (.c (.p (.o (.bool false)))), none, 0⟩] 0 none) .ret) .skip)) (.seq (.reg [
    ⟨(some 109), .mv (.t 2), none, 0⟩,
    ⟨(some 110), .cvi .i64 (.t 109), none, 0⟩,
    ⟨(some 111), .fad 9 (.t 4), none, 0⟩,
    ⟨(some 112), .ld none (.t 111), none, 0⟩,
    ⟨(some 113), .len false (.t 112), none, 0⟩,
    ⟨(some 114), .bin .add (.c (.p (.o (.int .i64 20)))) (.t 113), none, 0⟩,
    ⟨(some 115), .bin .rem (.t 110) (.t 114), none, 0⟩,
    ⟨(some 19), .mv (.t 115), none, 0⟩] 0 none) (.seq (.seq (.reg [
    ⟨(some 116), .mv (.t 3), none, 0⟩,
    ⟨(some 117), .bin .eql (.t 116) (.c (.p (.o (.int .u8 0)))), none, 0⟩] 0 none) (.cond (.t 117) (.seq (.reg [
    ⟨(some 118), .call 27 [] 0, none, 0⟩,
    ⟨(some 8), .mv (.t 118), none, 0⟩] 0 none) .ret) .skip)) (.seq (.reg [
    ⟨(some 119), .mv (.t 9), none, 0⟩,
    ⟨(some 120), .s2b (.t 119), none, 0⟩,
    ⟨(some 20), .mv (.t 120), none, 1⟩] 1 none) (.seq (.seq (.reg [
    ⟨(some 121), .mv (.t 19), none, 0⟩,
    ⟨(some 122), .mv (.t 20), none, 0⟩,
    ⟨(some 123), .len true (.t 122), none, 0⟩,
    ⟨(some 124), .bin .geq (.t 121) (.t 123), none, 0⟩] 0 none) (.cond (.t 124) (.seq (.reg [
    ⟨(some 8), .mv (.c (.p (.o (.bool false)))), none, 0⟩] 0 none) .ret) .skip)) (.seq (.reg [
    ⟨(some 125), .mv (.t 20), none, 0⟩,
    ⟨(some 126), .mv (.t 19), none, 0⟩,
    ⟨(some 127), .iad 1 (.t 125) (.t 126), none, 0⟩,
    ⟨(some 128), .ld none (.t 127), none, 0⟩,
    ⟨(some 129), .mv (.t 3), none, 0⟩,
    ⟨(some 130), .bin .xor (.t 128) (.t 129), none, 0⟩,
    ⟨(some 131), .iad 1 (.t 125) (.t 126), none, 0⟩,
    ⟨none, .st 1 (.t 131) (.t 130), none, 0⟩] 0 none) (.seq (.reg [
    ⟨(some 133), .mv (.t 20), none, 0⟩,
    ⟨(some 134), .b2s (.t 133), none, 0⟩,
    ⟨(some 135), .call 29 [(.t 134)] 0, none, 0⟩,
    ⟨(some 132), .mv (.t 135), none, 0⟩,
    ⟨(some 136), .ext 0 (.t 132), none, 0⟩,
    ⟨(some 137), .ext 1 (.t 132), none, 0⟩,
    ⟨(some 138), .ext 2 (.t 132), none, 0⟩,
    ⟨(some 21), .new [.int .u8 0, .int .u16 0, .bool false, .bool false, .int .i64 0, .int .u8 0, .int .u8 0, .int .u32 0, .int .u32 0, .str ⟨#[]⟩], none, 0⟩,
    ⟨none, .st 10 (.t 21) (.t 136), none, 1⟩,
    ⟨(some 22), .mv (.t 137), none, 1⟩,
    ⟨(some 23), .mv (.t 138), none, 1⟩] 1 none) (.seq (.reg [
    ⟨(some 139), .mv (.t 23), none, 0⟩,
    ⟨(some 140), .bin .neq (.t 139) (.c (.p (.o (.int .i64 0)))), none, 0⟩,
    ⟨(some 141), .mv (.t 140), none, 0⟩,
    ⟨(some 142), .mv (.t 19), (some (141, false)), 0⟩,
    ⟨(some 143), .bin .eql (.t 142) (.c (.p (.o (.int .i64 0)))), (some (141, false)), 0⟩,
    ⟨(some 144), .mv (.t 143), (some (141, false)), 0⟩,
    ⟨(some 145), .ld (some 10) (.t 21), (some (144, true)), 0⟩,
    ⟨(some 146), .ld (some 10) (.t 4), (some (144, true)), 0⟩,
    ⟨(some 147), .eq (.flat [.int .u8, .int .u16, .bool, .bool, .int .i64, .int .u8, .int .u8, .int .u32, .int .u32, .str]) true (.t 145) (.t 146), (some (144, true)), 0⟩,
    ⟨(some 148), .mv (.t 147), (some (144, true)), 0⟩,
    ⟨(some 149), .mv (.t 22), (some (148, false)), 0⟩,
    ⟨(some 150), .mv (.t 1), (some (148, false)), 0⟩,
    ⟨(some 151), .bin .neq (.t 149) (.t 150), (some (148, false)), 0⟩,
    ⟨(some 152), .pick (.t 148) (.c (.p (.o (.bool true)))) (.t 151), (some (144, true)), 0⟩,
    ⟨(some 153), .pick (.t 144) (.t 152) (.c (.p (.o (.bool false)))), (some (141, false)), 0⟩,
    ⟨(some 154), .pick (.t 141) (.c (.p (.o (.bool true)))) (.t 153), none, 0⟩,
    ⟨(some 155), .mv (.t 154), none, 0⟩,
    ⟨(some 156), .call 27 [] 0, (some (155, true)), 0⟩,
    ⟨(some 157), .pick (.t 155) (.t 156) (.c (.p (.o (.bool false)))), none, 0⟩,
    ⟨(some 8), .mv (.t 157), none, 0⟩] 0 none) .ret))))))))))))))))),
  [.tmp 8], 158, [0, 1, 2, 3, 4, 8, 9, 10, 11, 12, 13, 14, 16, 17, 18, 19, 20, 21, 22, 23]⟩
theorem ok_law10_IpNew : cFn Try.prog eqsT newsT vf_law10_IpNew.keep Try.f11 = some vf_law10_IpNew := by kernel_rfl
set_option maxHeartbeats 1000000 in
theorem ipnew_no (tos id : Int) (hold more : Bool) (at_ ttl proto fr tt : Int) (o : ByteArray) (d : ByteArray) (k by_ : Int) (ho : (o.size : Int) ≤ 256) (hd : (d.size : Int) ≤ 131072) (A : ByteArray) (e : Int) (he : ¬ e = 0) (E : Det Try.prog 26 [.a (hdr tos id hold more at_ ttl proto fr tt o), .o (.str d)] [] (.t [.o (.str A), .o (.int .i64 e)]) []) : Can Try.prog 11 [.a (hdr tos id hold more at_ ttl proto fr tt o), .o (.str d), .o (.int .u8 k), .o (.int .u8 by_)] [] (fun v _ => v = vB true) := by
  refine can_of_W known mix Try.func11 (by kernel_rfl) ok_law10_IpNew (Nat.le_of_ble_eq_true rfl) ?_
  repeat' ((conv => whnf); first
    | ((with_reducible refine Look.mk ?_); refine ⟨_, rfl, ?_⟩)
    | ((with_reducible refine LookN.zeros ?_))
    | ((with_reducible refine LookN.bytes ?_ ?_); (simp; done))
    | ((with_reducible refine BytesW.bytes ?_))
    | ((with_reducible refine Look.byte ?_ ?_); omega)
    | ((with_reducible refine Look.setb ?_ ?_ ?_); exact bv8_bd _; omega)
    | ((with_reducible refine LookN.setb ?_ ?_ ?_); exact bv8_bd _; omega)
    | ((with_reducible refine LookN.mk ?_); refine ⟨_, rfl, ?_⟩)
    | ((with_reducible refine Need.mk ?_ ?_); first | ((with_reducible refine needB ?_); kernel_rfl) | with_reducible rfl | omega | (with_reducible refine ⟨rfl, ?_⟩; focus omega) | (simp only [ByteArray.size_append, size_lit, List.size_toArray, List.length_cons, List.length_nil, Sp.ofB_size, ByteArray.size_extract]; omega) | exact rfl | trivial | exact Nat.le_of_ble_eq_true rfl | (exact ⟨rfl, by omega⟩) | (intro h; first | rfl | cases h) | (simp only [lenS_text, lenS_setN, lenS_zeros]; omega))
    | ((with_reducible refine BytesW.mk ?_); refine ⟨_, rfl, ?_⟩)
    | (with_reducible refine CallW.det (E) ?_)
    | (with_reducible refine CallW.det (alive10_det) ?_)
    | (with_reducible refine CallW.can (can_of_W known mix Try.func25 (by kernel_rfl) ok_law10_Long (Nat.le_of_ble_eq_true rfl) ?_) (fun _ _ h => h))
    | ((with_reducible refine Test.tmodEqT ?_ ?_ ?_); omega; focus first | omega | assumption)
    | ((with_reducible refine Test.tmodEqF ?_ ?_ ?_); omega; focus first | omega | assumption)
    | ((with_reducible refine Test.tmodNeT ?_ ?_ ?_); omega; focus first | omega | assumption)
    | ((with_reducible refine Test.tmodNeF ?_ ?_ ?_); omega; focus first | omega | assumption)
    | ((with_reducible refine Test.tmodEq ?_ (fun h => ?_) (fun h => ?_)); omega)
    | ((with_reducible refine Test.tmodNe ?_ (fun h => ?_) (fun h => ?_)); omega)
    | ((with_reducible refine Test.notT ?_ ?_); focus assumption)
    | ((with_reducible refine Test.notF ?_ ?_); focus assumption)
    | (with_reducible refine Test.notIe (fun h => ?_) (fun h => ?_))
    | (with_reducible refine Test.notD (fun h => ?_) (fun h => ?_))
    | ((with_reducible refine Test.empty (fun h => ?_) (fun h => ?_)))
    | (with_reducible refine Test.tt ?_)
    | (with_reducible refine Test.ff ?_)
    | ((with_reducible refine Test.dt ?_ ?_); omega)
    | ((with_reducible refine Test.df ?_ ?_); omega)
    | (with_reducible refine Test.d (fun h => ?_) (fun h => ?_))
    | ((with_reducible refine Test.ieT ?_ ?_); omega)
    | ((with_reducible refine Test.ieF ?_ ?_); omega)
    | ((with_reducible refine Test.neT ?_ ?_); omega)
    | ((with_reducible refine Test.neF ?_ ?_); omega)
    | (with_reducible refine Test.ie (fun h => ?_) (fun h => ?_))
    | (with_reducible refine Test.ne (fun h => ?_) (fun h => ?_))
    | ((with_reducible refine Test.b ?_ ?_); (focus first | assumption | (simp [negB]; done) | exact rfl))
    | ((with_reducible refine Test.nb ?_ ?_); (focus first | assumption | (simp [negB]; done) | exact rfl))
    | (with_reducible refine Test.notS (fun h => ?_) (fun h => ?_))
    | (with_reducible refine Test.mk (fun h => ?_) (fun h => ?_))
    | ((with_reducible refine Arith.tdiv ?_ ?_); omega)
    | (with_reducible refine Arith.bv8 ?_)
    | (with_reducible refine Arith.bv16 ?_)
    | (with_reducible refine Arith.bv32 ?_)
    | (with_reducible refine Arith.bv64 ?_)
    | ((with_reducible refine Arith.i64 ?_ ?_); omega)
    | ((with_reducible refine Arith.u64 ?_ ?_); omega)
    | ((with_reducible refine Arith.u32 ?_ ?_); omega)
    | ((with_reducible refine Arith.u16 ?_ ?_); omega)
    | ((with_reducible refine Arith.u8 ?_ ?_); omega)
    | ((with_reducible refine Arith.i32 ?_ ?_); omega)
    | ((with_reducible refine Arith.i64 ?_ ?_); simp (discharger := omega) only [Int.tdiv_eq_ediv_of_nonneg, shr_u8_4, shl_u8_4, shr_u16_4, shl_u16_4, shr_u16_8, shl_u16_8, shr_u32_4, shl_u32_4, shr_u32_8, shl_u32_8, shr_u32_16, shl_u32_16, shr_u32_24, shl_u32_24, shr_u64_4, shl_u64_4, shr_u64_8, shl_u64_8, shr_u64_16, shl_u64_16, shr_u64_24, shl_u64_24, shr_u64_40, shl_u64_40, shr_i64_4, shl_i64_4, shr_i64_8, shl_i64_8, shr_i64_16, shl_i64_16, shr_i64_24, shl_i64_24, shr_i64_40, shl_i64_40]; omega)
    | ((with_reducible refine Arith.u64 ?_ ?_); simp (discharger := omega) only [Int.tdiv_eq_ediv_of_nonneg, shr_u8_4, shl_u8_4, shr_u16_4, shl_u16_4, shr_u16_8, shl_u16_8, shr_u32_4, shl_u32_4, shr_u32_8, shl_u32_8, shr_u32_16, shl_u32_16, shr_u32_24, shl_u32_24, shr_u64_4, shl_u64_4, shr_u64_8, shl_u64_8, shr_u64_16, shl_u64_16, shr_u64_24, shl_u64_24, shr_u64_40, shl_u64_40, shr_i64_4, shl_i64_4, shr_i64_8, shl_i64_8, shr_i64_16, shl_i64_16, shr_i64_24, shl_i64_24, shr_i64_40, shl_i64_40]; omega)
    | ((with_reducible refine Arith.u32 ?_ ?_); simp (discharger := omega) only [Int.tdiv_eq_ediv_of_nonneg, shr_u8_4, shl_u8_4, shr_u16_4, shl_u16_4, shr_u16_8, shl_u16_8, shr_u32_4, shl_u32_4, shr_u32_8, shl_u32_8, shr_u32_16, shl_u32_16, shr_u32_24, shl_u32_24, shr_u64_4, shl_u64_4, shr_u64_8, shl_u64_8, shr_u64_16, shl_u64_16, shr_u64_24, shl_u64_24, shr_u64_40, shl_u64_40, shr_i64_4, shl_i64_4, shr_i64_8, shl_i64_8, shr_i64_16, shl_i64_16, shr_i64_24, shl_i64_24, shr_i64_40, shl_i64_40]; omega)
    | ((with_reducible refine Arith.u16 ?_ ?_); simp (discharger := omega) only [Int.tdiv_eq_ediv_of_nonneg, shr_u8_4, shl_u8_4, shr_u16_4, shl_u16_4, shr_u16_8, shl_u16_8, shr_u32_4, shl_u32_4, shr_u32_8, shl_u32_8, shr_u32_16, shl_u32_16, shr_u32_24, shl_u32_24, shr_u64_4, shl_u64_4, shr_u64_8, shl_u64_8, shr_u64_16, shl_u64_16, shr_u64_24, shl_u64_24, shr_u64_40, shl_u64_40, shr_i64_4, shl_i64_4, shr_i64_8, shl_i64_8, shr_i64_16, shl_i64_16, shr_i64_24, shl_i64_24, shr_i64_40, shl_i64_40]; omega)
    | ((with_reducible refine Arith.u8 ?_ ?_); simp (discharger := omega) only [Int.tdiv_eq_ediv_of_nonneg, shr_u8_4, shl_u8_4, shr_u16_4, shl_u16_4, shr_u16_8, shl_u16_8, shr_u32_4, shl_u32_4, shr_u32_8, shl_u32_8, shr_u32_16, shl_u32_16, shr_u32_24, shl_u32_24, shr_u64_4, shl_u64_4, shr_u64_8, shl_u64_8, shr_u64_16, shl_u64_16, shr_u64_24, shl_u64_24, shr_u64_40, shl_u64_40, shr_i64_4, shl_i64_4, shr_i64_8, shl_i64_8, shr_i64_16, shl_i64_16, shr_i64_24, shl_i64_24, shr_i64_40, shl_i64_40]; omega)
    | (with_reducible refine Arith.mk ?_)
    | (with_reducible refine Ends.mk ?_))
  all_goals rfl
theorem ipnew_far (tos id : Int) (hold more : Bool) (at_ ttl proto fr tt : Int) (o : ByteArray) (d : ByteArray) (k by_ : Int) (h : ¬ ((o.size : Int) ≤ 256 ∧ (d.size : Int) ≤ 131072)) : Can Try.prog 11 [.a (hdr tos id hold more at_ ttl proto fr tt o), .o (.str d), .o (.int .u8 k), .o (.int .u8 by_)] [] (fun v _ => v = vB true) := by
  by_cases h1 : (o.size : Int) ≤ 256
  · refine can_of_W known mix Try.func11 (by kernel_rfl) ok_law10_IpNew (Nat.le_of_ble_eq_true rfl) ?_
    repeat' ((conv => whnf); first
    | ((with_reducible refine Look.mk ?_); refine ⟨_, rfl, ?_⟩)
    | ((with_reducible refine LookN.zeros ?_))
    | ((with_reducible refine LookN.bytes ?_ ?_); (simp; done))
    | ((with_reducible refine BytesW.bytes ?_))
    | ((with_reducible refine Look.byte ?_ ?_); omega)
    | ((with_reducible refine Look.setb ?_ ?_ ?_); exact bv8_bd _; omega)
    | ((with_reducible refine LookN.setb ?_ ?_ ?_); exact bv8_bd _; omega)
    | ((with_reducible refine LookN.mk ?_); refine ⟨_, rfl, ?_⟩)
    | ((with_reducible refine Need.mk ?_ ?_); first | ((with_reducible refine needB ?_); kernel_rfl) | with_reducible rfl | omega | (with_reducible refine ⟨rfl, ?_⟩; focus omega) | (simp only [ByteArray.size_append, size_lit, List.size_toArray, List.length_cons, List.length_nil, Sp.ofB_size, ByteArray.size_extract]; omega) | exact rfl | trivial | exact Nat.le_of_ble_eq_true rfl | (exact ⟨rfl, by omega⟩) | (intro h; first | rfl | cases h) | (simp only [lenS_text, lenS_setN, lenS_zeros]; omega))
    | ((with_reducible refine BytesW.mk ?_); refine ⟨_, rfl, ?_⟩)
    | (with_reducible refine CallW.det (alive10_det) ?_)
    | (with_reducible refine CallW.can (can_of_W known mix Try.func25 (by kernel_rfl) ok_law10_Long (Nat.le_of_ble_eq_true rfl) ?_) (fun _ _ h => h))
    | ((with_reducible refine Test.tmodEqT ?_ ?_ ?_); omega; focus first | omega | assumption)
    | ((with_reducible refine Test.tmodEqF ?_ ?_ ?_); omega; focus first | omega | assumption)
    | ((with_reducible refine Test.tmodNeT ?_ ?_ ?_); omega; focus first | omega | assumption)
    | ((with_reducible refine Test.tmodNeF ?_ ?_ ?_); omega; focus first | omega | assumption)
    | ((with_reducible refine Test.tmodEq ?_ (fun h => ?_) (fun h => ?_)); omega)
    | ((with_reducible refine Test.tmodNe ?_ (fun h => ?_) (fun h => ?_)); omega)
    | ((with_reducible refine Test.notT ?_ ?_); focus assumption)
    | ((with_reducible refine Test.notF ?_ ?_); focus assumption)
    | (with_reducible refine Test.notIe (fun h => ?_) (fun h => ?_))
    | (with_reducible refine Test.notD (fun h => ?_) (fun h => ?_))
    | ((with_reducible refine Test.empty (fun h => ?_) (fun h => ?_)))
    | (with_reducible refine Test.tt ?_)
    | (with_reducible refine Test.ff ?_)
    | ((with_reducible refine Test.dt ?_ ?_); omega)
    | ((with_reducible refine Test.df ?_ ?_); omega)
    | (with_reducible refine Test.d (fun h => ?_) (fun h => ?_))
    | ((with_reducible refine Test.ieT ?_ ?_); omega)
    | ((with_reducible refine Test.ieF ?_ ?_); omega)
    | ((with_reducible refine Test.neT ?_ ?_); omega)
    | ((with_reducible refine Test.neF ?_ ?_); omega)
    | (with_reducible refine Test.ie (fun h => ?_) (fun h => ?_))
    | (with_reducible refine Test.ne (fun h => ?_) (fun h => ?_))
    | ((with_reducible refine Test.b ?_ ?_); (focus first | assumption | (simp [negB]; done) | exact rfl))
    | ((with_reducible refine Test.nb ?_ ?_); (focus first | assumption | (simp [negB]; done) | exact rfl))
    | (with_reducible refine Test.notS (fun h => ?_) (fun h => ?_))
    | (with_reducible refine Test.mk (fun h => ?_) (fun h => ?_))
    | ((with_reducible refine Arith.tdiv ?_ ?_); omega)
    | (with_reducible refine Arith.bv8 ?_)
    | (with_reducible refine Arith.bv16 ?_)
    | (with_reducible refine Arith.bv32 ?_)
    | (with_reducible refine Arith.bv64 ?_)
    | ((with_reducible refine Arith.i64 ?_ ?_); omega)
    | ((with_reducible refine Arith.u64 ?_ ?_); omega)
    | ((with_reducible refine Arith.u32 ?_ ?_); omega)
    | ((with_reducible refine Arith.u16 ?_ ?_); omega)
    | ((with_reducible refine Arith.u8 ?_ ?_); omega)
    | ((with_reducible refine Arith.i32 ?_ ?_); omega)
    | ((with_reducible refine Arith.i64 ?_ ?_); simp (discharger := omega) only [Int.tdiv_eq_ediv_of_nonneg, shr_u8_4, shl_u8_4, shr_u16_4, shl_u16_4, shr_u16_8, shl_u16_8, shr_u32_4, shl_u32_4, shr_u32_8, shl_u32_8, shr_u32_16, shl_u32_16, shr_u32_24, shl_u32_24, shr_u64_4, shl_u64_4, shr_u64_8, shl_u64_8, shr_u64_16, shl_u64_16, shr_u64_24, shl_u64_24, shr_u64_40, shl_u64_40, shr_i64_4, shl_i64_4, shr_i64_8, shl_i64_8, shr_i64_16, shl_i64_16, shr_i64_24, shl_i64_24, shr_i64_40, shl_i64_40]; omega)
    | ((with_reducible refine Arith.u64 ?_ ?_); simp (discharger := omega) only [Int.tdiv_eq_ediv_of_nonneg, shr_u8_4, shl_u8_4, shr_u16_4, shl_u16_4, shr_u16_8, shl_u16_8, shr_u32_4, shl_u32_4, shr_u32_8, shl_u32_8, shr_u32_16, shl_u32_16, shr_u32_24, shl_u32_24, shr_u64_4, shl_u64_4, shr_u64_8, shl_u64_8, shr_u64_16, shl_u64_16, shr_u64_24, shl_u64_24, shr_u64_40, shl_u64_40, shr_i64_4, shl_i64_4, shr_i64_8, shl_i64_8, shr_i64_16, shl_i64_16, shr_i64_24, shl_i64_24, shr_i64_40, shl_i64_40]; omega)
    | ((with_reducible refine Arith.u32 ?_ ?_); simp (discharger := omega) only [Int.tdiv_eq_ediv_of_nonneg, shr_u8_4, shl_u8_4, shr_u16_4, shl_u16_4, shr_u16_8, shl_u16_8, shr_u32_4, shl_u32_4, shr_u32_8, shl_u32_8, shr_u32_16, shl_u32_16, shr_u32_24, shl_u32_24, shr_u64_4, shl_u64_4, shr_u64_8, shl_u64_8, shr_u64_16, shl_u64_16, shr_u64_24, shl_u64_24, shr_u64_40, shl_u64_40, shr_i64_4, shl_i64_4, shr_i64_8, shl_i64_8, shr_i64_16, shl_i64_16, shr_i64_24, shl_i64_24, shr_i64_40, shl_i64_40]; omega)
    | ((with_reducible refine Arith.u16 ?_ ?_); simp (discharger := omega) only [Int.tdiv_eq_ediv_of_nonneg, shr_u8_4, shl_u8_4, shr_u16_4, shl_u16_4, shr_u16_8, shl_u16_8, shr_u32_4, shl_u32_4, shr_u32_8, shl_u32_8, shr_u32_16, shl_u32_16, shr_u32_24, shl_u32_24, shr_u64_4, shl_u64_4, shr_u64_8, shl_u64_8, shr_u64_16, shl_u64_16, shr_u64_24, shl_u64_24, shr_u64_40, shl_u64_40, shr_i64_4, shl_i64_4, shr_i64_8, shl_i64_8, shr_i64_16, shl_i64_16, shr_i64_24, shl_i64_24, shr_i64_40, shl_i64_40]; omega)
    | ((with_reducible refine Arith.u8 ?_ ?_); simp (discharger := omega) only [Int.tdiv_eq_ediv_of_nonneg, shr_u8_4, shl_u8_4, shr_u16_4, shl_u16_4, shr_u16_8, shl_u16_8, shr_u32_4, shl_u32_4, shr_u32_8, shl_u32_8, shr_u32_16, shl_u32_16, shr_u32_24, shl_u32_24, shr_u64_4, shl_u64_4, shr_u64_8, shl_u64_8, shr_u64_16, shl_u64_16, shr_u64_24, shl_u64_24, shr_u64_40, shl_u64_40, shr_i64_4, shl_i64_4, shr_i64_8, shl_i64_8, shr_i64_16, shl_i64_16, shr_i64_24, shl_i64_24, shr_i64_40, shl_i64_40]; omega)
    | (with_reducible refine Arith.mk ?_)
    | (with_reducible refine Ends.mk ?_))
    all_goals rfl
  · refine can_of_W known mix Try.func11 (by kernel_rfl) ok_law10_IpNew (Nat.le_of_ble_eq_true rfl) ?_
    repeat' ((conv => whnf); first
    | ((with_reducible refine Look.mk ?_); refine ⟨_, rfl, ?_⟩)
    | ((with_reducible refine LookN.zeros ?_))
    | ((with_reducible refine LookN.bytes ?_ ?_); (simp; done))
    | ((with_reducible refine BytesW.bytes ?_))
    | ((with_reducible refine Look.byte ?_ ?_); omega)
    | ((with_reducible refine Look.setb ?_ ?_ ?_); exact bv8_bd _; omega)
    | ((with_reducible refine LookN.setb ?_ ?_ ?_); exact bv8_bd _; omega)
    | ((with_reducible refine LookN.mk ?_); refine ⟨_, rfl, ?_⟩)
    | ((with_reducible refine Need.mk ?_ ?_); first | ((with_reducible refine needB ?_); kernel_rfl) | with_reducible rfl | omega | (with_reducible refine ⟨rfl, ?_⟩; focus omega) | (simp only [ByteArray.size_append, size_lit, List.size_toArray, List.length_cons, List.length_nil, Sp.ofB_size, ByteArray.size_extract]; omega) | exact rfl | trivial | exact Nat.le_of_ble_eq_true rfl | (exact ⟨rfl, by omega⟩) | (intro h; first | rfl | cases h) | (simp only [lenS_text, lenS_setN, lenS_zeros]; omega))
    | ((with_reducible refine BytesW.mk ?_); refine ⟨_, rfl, ?_⟩)
    | (with_reducible refine CallW.det (alive10_det) ?_)
    | (with_reducible refine CallW.can (can_of_W known mix Try.func25 (by kernel_rfl) ok_law10_Long (Nat.le_of_ble_eq_true rfl) ?_) (fun _ _ h => h))
    | ((with_reducible refine Test.tmodEqT ?_ ?_ ?_); omega; focus first | omega | assumption)
    | ((with_reducible refine Test.tmodEqF ?_ ?_ ?_); omega; focus first | omega | assumption)
    | ((with_reducible refine Test.tmodNeT ?_ ?_ ?_); omega; focus first | omega | assumption)
    | ((with_reducible refine Test.tmodNeF ?_ ?_ ?_); omega; focus first | omega | assumption)
    | ((with_reducible refine Test.tmodEq ?_ (fun h => ?_) (fun h => ?_)); omega)
    | ((with_reducible refine Test.tmodNe ?_ (fun h => ?_) (fun h => ?_)); omega)
    | ((with_reducible refine Test.notT ?_ ?_); focus assumption)
    | ((with_reducible refine Test.notF ?_ ?_); focus assumption)
    | (with_reducible refine Test.notIe (fun h => ?_) (fun h => ?_))
    | (with_reducible refine Test.notD (fun h => ?_) (fun h => ?_))
    | ((with_reducible refine Test.empty (fun h => ?_) (fun h => ?_)))
    | (with_reducible refine Test.tt ?_)
    | (with_reducible refine Test.ff ?_)
    | ((with_reducible refine Test.dt ?_ ?_); omega)
    | ((with_reducible refine Test.df ?_ ?_); omega)
    | (with_reducible refine Test.d (fun h => ?_) (fun h => ?_))
    | ((with_reducible refine Test.ieT ?_ ?_); omega)
    | ((with_reducible refine Test.ieF ?_ ?_); omega)
    | ((with_reducible refine Test.neT ?_ ?_); omega)
    | ((with_reducible refine Test.neF ?_ ?_); omega)
    | (with_reducible refine Test.ie (fun h => ?_) (fun h => ?_))
    | (with_reducible refine Test.ne (fun h => ?_) (fun h => ?_))
    | ((with_reducible refine Test.b ?_ ?_); (focus first | assumption | (simp [negB]; done) | exact rfl))
    | ((with_reducible refine Test.nb ?_ ?_); (focus first | assumption | (simp [negB]; done) | exact rfl))
    | (with_reducible refine Test.notS (fun h => ?_) (fun h => ?_))
    | (with_reducible refine Test.mk (fun h => ?_) (fun h => ?_))
    | ((with_reducible refine Arith.tdiv ?_ ?_); omega)
    | (with_reducible refine Arith.bv8 ?_)
    | (with_reducible refine Arith.bv16 ?_)
    | (with_reducible refine Arith.bv32 ?_)
    | (with_reducible refine Arith.bv64 ?_)
    | ((with_reducible refine Arith.i64 ?_ ?_); omega)
    | ((with_reducible refine Arith.u64 ?_ ?_); omega)
    | ((with_reducible refine Arith.u32 ?_ ?_); omega)
    | ((with_reducible refine Arith.u16 ?_ ?_); omega)
    | ((with_reducible refine Arith.u8 ?_ ?_); omega)
    | ((with_reducible refine Arith.i32 ?_ ?_); omega)
    | ((with_reducible refine Arith.i64 ?_ ?_); simp (discharger := omega) only [Int.tdiv_eq_ediv_of_nonneg, shr_u8_4, shl_u8_4, shr_u16_4, shl_u16_4, shr_u16_8, shl_u16_8, shr_u32_4, shl_u32_4, shr_u32_8, shl_u32_8, shr_u32_16, shl_u32_16, shr_u32_24, shl_u32_24, shr_u64_4, shl_u64_4, shr_u64_8, shl_u64_8, shr_u64_16, shl_u64_16, shr_u64_24, shl_u64_24, shr_u64_40, shl_u64_40, shr_i64_4, shl_i64_4, shr_i64_8, shl_i64_8, shr_i64_16, shl_i64_16, shr_i64_24, shl_i64_24, shr_i64_40, shl_i64_40]; omega)
    | ((with_reducible refine Arith.u64 ?_ ?_); simp (discharger := omega) only [Int.tdiv_eq_ediv_of_nonneg, shr_u8_4, shl_u8_4, shr_u16_4, shl_u16_4, shr_u16_8, shl_u16_8, shr_u32_4, shl_u32_4, shr_u32_8, shl_u32_8, shr_u32_16, shl_u32_16, shr_u32_24, shl_u32_24, shr_u64_4, shl_u64_4, shr_u64_8, shl_u64_8, shr_u64_16, shl_u64_16, shr_u64_24, shl_u64_24, shr_u64_40, shl_u64_40, shr_i64_4, shl_i64_4, shr_i64_8, shl_i64_8, shr_i64_16, shl_i64_16, shr_i64_24, shl_i64_24, shr_i64_40, shl_i64_40]; omega)
    | ((with_reducible refine Arith.u32 ?_ ?_); simp (discharger := omega) only [Int.tdiv_eq_ediv_of_nonneg, shr_u8_4, shl_u8_4, shr_u16_4, shl_u16_4, shr_u16_8, shl_u16_8, shr_u32_4, shl_u32_4, shr_u32_8, shl_u32_8, shr_u32_16, shl_u32_16, shr_u32_24, shl_u32_24, shr_u64_4, shl_u64_4, shr_u64_8, shl_u64_8, shr_u64_16, shl_u64_16, shr_u64_24, shl_u64_24, shr_u64_40, shl_u64_40, shr_i64_4, shl_i64_4, shr_i64_8, shl_i64_8, shr_i64_16, shl_i64_16, shr_i64_24, shl_i64_24, shr_i64_40, shl_i64_40]; omega)
    | ((with_reducible refine Arith.u16 ?_ ?_); simp (discharger := omega) only [Int.tdiv_eq_ediv_of_nonneg, shr_u8_4, shl_u8_4, shr_u16_4, shl_u16_4, shr_u16_8, shl_u16_8, shr_u32_4, shl_u32_4, shr_u32_8, shl_u32_8, shr_u32_16, shl_u32_16, shr_u32_24, shl_u32_24, shr_u64_4, shl_u64_4, shr_u64_8, shl_u64_8, shr_u64_16, shl_u64_16, shr_u64_24, shl_u64_24, shr_u64_40, shl_u64_40, shr_i64_4, shl_i64_4, shr_i64_8, shl_i64_8, shr_i64_16, shl_i64_16, shr_i64_24, shl_i64_24, shr_i64_40, shl_i64_40]; omega)
    | ((with_reducible refine Arith.u8 ?_ ?_); simp (discharger := omega) only [Int.tdiv_eq_ediv_of_nonneg, shr_u8_4, shl_u8_4, shr_u16_4, shl_u16_4, shr_u16_8, shl_u16_8, shr_u32_4, shl_u32_4, shr_u32_8, shl_u32_8, shr_u32_16, shl_u32_16, shr_u32_24, shl_u32_24, shr_u64_4, shl_u64_4, shr_u64_8, shl_u64_8, shr_u64_16, shl_u64_16, shr_u64_24, shl_u64_24, shr_u64_40, shl_u64_40, shr_i64_4, shl_i64_4, shr_i64_8, shl_i64_8, shr_i64_16, shl_i64_16, shr_i64_24, shl_i64_24, shr_i64_40, shl_i64_40]; omega)
    | (with_reducible refine Arith.mk ?_)
    | (with_reducible refine Ends.mk ?_))
    all_goals rfl
set_option maxHeartbeats 8000000 in
theorem ipnew_low (tos id : Int) (hold more : Bool) (at_ ttl proto fr tt : Int) (o : ByteArray) (d : ByteArray) (k by_ : Int) (ho : (o.size : Int) ≤ 256) (hd : (d.size : Int) ≤ 131072) (S : ByteArray) (hS : (S.size : Int) = 20 + o.size + d.size) (httl : 0 ≤ ttl ∧ ttl ≤ 255) (hk : 0 ≤ k ∧ k ≤ 255) (hb : 0 ≤ by_ ∧ by_ ≤ 255) (E : Det Try.prog 26 [.a (hdr tos id hold more at_ ttl proto fr tt o), .o (.str d)] [] (.t [.o (.str S), .o (.int .i64 0)]) []) (tos2 id2 : Int) (hold2 more2 : Bool) (at_2 ttl2 proto2 fr2 tt2 : Int) (o2 d2 : ByteArray) (de : Int) (D : Det Try.prog 29 [.o (.str (setB S (0 + (k.tmod (20 + o.size)).toNat * 1) (((BitVec.ofInt IntKind.u8.bits (bAt S (0 + (k.tmod (20 + o.size)).toNat * 1)) ^^^ BitVec.ofInt IntKind.u8.bits by_).toNat : Nat) : Int)))] [] (.t [.a (hdr tos2 id2 hold2 more2 at_2 ttl2 proto2 fr2 tt2 o2), .o (.str d2), .o (.int .i64 de)]) []) (hfl : ¬ by_ = 0 → de ≠ 0 ∨ (k.tmod (20 + o.size) = 0 ∧ ((tos2 == tos) && ((id2 == id) && ((hold2 == hold) && ((more2 == more) && ((at_2 == at_) && ((ttl2 == ttl) && ((proto2 == proto) && ((fr2 == fr) && ((tt2 == tt) && ((o2.toList == o.toList) && true)))))))))) = false)) (hlow : ttl < 2) (P0 : Det Try.prog 33 [.o (.str (S ++ ⟨#[98, 101, 104, 105, 110, 100]⟩))] [] (.t [.o (.str ⟨#[]⟩), .o (.int .i64 9)]) []) : Can Try.prog 11 [.a (hdr tos id hold more at_ ttl proto fr tt o), .o (.str d), .o (.int .u8 k), .o (.int .u8 by_)] [] (fun v _ => v = vB true) := by
  have hm : 0 ≤ k.tmod (20 + o.size) ∧ k.tmod (20 + o.size) < 20 + o.size := ⟨Int.tmod_nonneg _ hk.1, Int.tmod_lt_of_pos _ (by omega)⟩
  have hfl' : by_ = 0 ∨ ¬ de = 0 ∨ (k % (20 + (o.size : Int)) = 0 ∧ ((tos2 == tos) && ((id2 == id) && ((hold2 == hold) && ((more2 == more) && ((at_2 == at_) && ((ttl2 == ttl) && ((proto2 == proto) && ((fr2 == fr) && ((tt2 == tt) && ((o2.toList == o.toList) && true)))))))))) = false) := by
    have hte : k.tmod (20 + o.size) = k % (20 + (o.size : Int)) := Int.tmod_eq_emod_of_nonneg hk.1
    by_cases c : by_ = 0
    · exact .inl c
    · rcases hfl c with h | ⟨h1, h2⟩
      · exact .inr (.inl h)
      · exact .inr (.inr ⟨hte ▸ h1, h2⟩)
  clear hfl
  have hdl : decide (ttl > 1) = false := decide_eq_false (by omega)
  rcases hfl' with hc0 | hc1 | ⟨hc1, hc2⟩
  all_goals refine can_of_W known mix Try.func11 (by kernel_rfl) ok_law10_IpNew (Nat.le_of_ble_eq_true rfl) ?_
  all_goals repeat' ((conv => whnf); first
    | ((with_reducible refine Look.mk ?_); refine ⟨_, rfl, ?_⟩)
    | ((with_reducible refine LookN.zeros ?_))
    | ((with_reducible refine LookN.bytes ?_ ?_); (simp; done))
    | ((with_reducible refine BytesW.bytes ?_))
    | ((with_reducible refine Look.byte ?_ ?_); omega)
    | ((with_reducible refine Look.setb ?_ ?_ ?_); exact bv8_bd _; omega)
    | ((with_reducible refine LookN.setb ?_ ?_ ?_); exact bv8_bd _; omega)
    | ((with_reducible refine LookN.mk ?_); refine ⟨_, rfl, ?_⟩)
    | ((with_reducible refine Need.mk ?_ ?_); first | ((with_reducible refine needB ?_); kernel_rfl) | with_reducible rfl | omega | (with_reducible refine ⟨rfl, ?_⟩; focus omega) | (simp only [ByteArray.size_append, size_lit, List.size_toArray, List.length_cons, List.length_nil, Sp.ofB_size, ByteArray.size_extract]; omega) | exact rfl | trivial | exact Nat.le_of_ble_eq_true rfl | (exact ⟨rfl, by omega⟩) | (intro h; first | rfl | cases h) | (simp only [lenS_text, lenS_setN, lenS_zeros]; omega))
    | ((with_reducible refine BytesW.mk ?_); refine ⟨_, rfl, ?_⟩)
    | (with_reducible refine CallW.det (E) ?_)
    | (with_reducible refine CallW.det (P0) ?_)
    | (with_reducible refine CallW.det (D) ?_)
    | (with_reducible refine CallW.det (alive10_det) ?_)
    | (with_reducible refine CallW.can (can_of_W known mix Try.func25 (by kernel_rfl) ok_law10_Long (Nat.le_of_ble_eq_true rfl) ?_) (fun _ _ h => h))
    | (with_reducible refine LoopW.unroll (fun X hX => ?_))
    | (refine hX _ _ ?_)
    | ((with_reducible refine Test.tmodEqT ?_ ?_ ?_); omega; focus first | omega | assumption)
    | ((with_reducible refine Test.tmodEqF ?_ ?_ ?_); omega; focus first | omega | assumption)
    | ((with_reducible refine Test.tmodNeT ?_ ?_ ?_); omega; focus first | omega | assumption)
    | ((with_reducible refine Test.tmodNeF ?_ ?_ ?_); omega; focus first | omega | assumption)
    | ((with_reducible refine Test.tmodEq ?_ (fun h => ?_) (fun h => ?_)); omega)
    | ((with_reducible refine Test.tmodNe ?_ (fun h => ?_) (fun h => ?_)); omega)
    | ((with_reducible refine Test.notT ?_ ?_); focus assumption)
    | ((with_reducible refine Test.notF ?_ ?_); focus assumption)
    | (with_reducible refine Test.notIe (fun h => ?_) (fun h => ?_))
    | (with_reducible refine Test.notD (fun h => ?_) (fun h => ?_))
    | ((with_reducible refine Test.empty (fun h => ?_) (fun h => ?_)))
    | (with_reducible refine Test.tt ?_)
    | (with_reducible refine Test.ff ?_)
    | ((with_reducible refine Test.dt ?_ ?_); omega)
    | ((with_reducible refine Test.df ?_ ?_); omega)
    | (with_reducible refine Test.d (fun h => ?_) (fun h => ?_))
    | ((with_reducible refine Test.ieT ?_ ?_); omega)
    | ((with_reducible refine Test.ieF ?_ ?_); omega)
    | ((with_reducible refine Test.neT ?_ ?_); omega)
    | ((with_reducible refine Test.neF ?_ ?_); omega)
    | (with_reducible refine Test.ie (fun h => ?_) (fun h => ?_))
    | (with_reducible refine Test.ne (fun h => ?_) (fun h => ?_))
    | ((with_reducible refine Test.b ?_ ?_); (focus first | assumption | (simp [negB]; done) | exact rfl | (rw [hc2]; simp [negB]; done) | (rw [hdl]; rfl)))
    | ((with_reducible refine Test.nb ?_ ?_); (focus first | assumption | (simp [negB]; done) | exact rfl | (rw [hc2]; simp [negB]; done) | (rw [hdl]; rfl)))
    | (with_reducible refine Test.notS (fun h => ?_) (fun h => ?_))
    | (with_reducible refine Test.mk (fun h => ?_) (fun h => ?_))
    | ((with_reducible refine Arith.tdiv ?_ ?_); omega)
    | (with_reducible refine Arith.bv8 ?_)
    | (with_reducible refine Arith.bv16 ?_)
    | (with_reducible refine Arith.bv32 ?_)
    | (with_reducible refine Arith.bv64 ?_)
    | ((with_reducible refine Arith.i64 ?_ ?_); omega)
    | ((with_reducible refine Arith.u64 ?_ ?_); omega)
    | ((with_reducible refine Arith.u32 ?_ ?_); omega)
    | ((with_reducible refine Arith.u16 ?_ ?_); omega)
    | ((with_reducible refine Arith.u8 ?_ ?_); omega)
    | ((with_reducible refine Arith.i32 ?_ ?_); omega)
    | ((with_reducible refine Arith.i64 ?_ ?_); simp (discharger := omega) only [Int.tdiv_eq_ediv_of_nonneg, shr_u8_4, shl_u8_4, shr_u16_4, shl_u16_4, shr_u16_8, shl_u16_8, shr_u32_4, shl_u32_4, shr_u32_8, shl_u32_8, shr_u32_16, shl_u32_16, shr_u32_24, shl_u32_24, shr_u64_4, shl_u64_4, shr_u64_8, shl_u64_8, shr_u64_16, shl_u64_16, shr_u64_24, shl_u64_24, shr_u64_40, shl_u64_40, shr_i64_4, shl_i64_4, shr_i64_8, shl_i64_8, shr_i64_16, shl_i64_16, shr_i64_24, shl_i64_24, shr_i64_40, shl_i64_40]; omega)
    | ((with_reducible refine Arith.u64 ?_ ?_); simp (discharger := omega) only [Int.tdiv_eq_ediv_of_nonneg, shr_u8_4, shl_u8_4, shr_u16_4, shl_u16_4, shr_u16_8, shl_u16_8, shr_u32_4, shl_u32_4, shr_u32_8, shl_u32_8, shr_u32_16, shl_u32_16, shr_u32_24, shl_u32_24, shr_u64_4, shl_u64_4, shr_u64_8, shl_u64_8, shr_u64_16, shl_u64_16, shr_u64_24, shl_u64_24, shr_u64_40, shl_u64_40, shr_i64_4, shl_i64_4, shr_i64_8, shl_i64_8, shr_i64_16, shl_i64_16, shr_i64_24, shl_i64_24, shr_i64_40, shl_i64_40]; omega)
    | ((with_reducible refine Arith.u32 ?_ ?_); simp (discharger := omega) only [Int.tdiv_eq_ediv_of_nonneg, shr_u8_4, shl_u8_4, shr_u16_4, shl_u16_4, shr_u16_8, shl_u16_8, shr_u32_4, shl_u32_4, shr_u32_8, shl_u32_8, shr_u32_16, shl_u32_16, shr_u32_24, shl_u32_24, shr_u64_4, shl_u64_4, shr_u64_8, shl_u64_8, shr_u64_16, shl_u64_16, shr_u64_24, shl_u64_24, shr_u64_40, shl_u64_40, shr_i64_4, shl_i64_4, shr_i64_8, shl_i64_8, shr_i64_16, shl_i64_16, shr_i64_24, shl_i64_24, shr_i64_40, shl_i64_40]; omega)
    | ((with_reducible refine Arith.u16 ?_ ?_); simp (discharger := omega) only [Int.tdiv_eq_ediv_of_nonneg, shr_u8_4, shl_u8_4, shr_u16_4, shl_u16_4, shr_u16_8, shl_u16_8, shr_u32_4, shl_u32_4, shr_u32_8, shl_u32_8, shr_u32_16, shl_u32_16, shr_u32_24, shl_u32_24, shr_u64_4, shl_u64_4, shr_u64_8, shl_u64_8, shr_u64_16, shl_u64_16, shr_u64_24, shl_u64_24, shr_u64_40, shl_u64_40, shr_i64_4, shl_i64_4, shr_i64_8, shl_i64_8, shr_i64_16, shl_i64_16, shr_i64_24, shl_i64_24, shr_i64_40, shl_i64_40]; omega)
    | ((with_reducible refine Arith.u8 ?_ ?_); simp (discharger := omega) only [Int.tdiv_eq_ediv_of_nonneg, shr_u8_4, shl_u8_4, shr_u16_4, shl_u16_4, shr_u16_8, shl_u16_8, shr_u32_4, shl_u32_4, shr_u32_8, shl_u32_8, shr_u32_16, shl_u32_16, shr_u32_24, shl_u32_24, shr_u64_4, shl_u64_4, shr_u64_8, shl_u64_8, shr_u64_16, shl_u64_16, shr_u64_24, shl_u64_24, shr_u64_40, shl_u64_40, shr_i64_4, shl_i64_4, shr_i64_8, shl_i64_8, shr_i64_16, shl_i64_16, shr_i64_24, shl_i64_24, shr_i64_40, shl_i64_40]; omega)
    | (with_reducible refine Arith.mk ?_)
    | (with_reducible refine Ends.mk ?_))
  all_goals rfl
set_option maxHeartbeats 16000000 in
theorem ipnew_high (tos id : Int) (hold more : Bool) (at_ ttl proto fr tt : Int) (o : ByteArray) (d : ByteArray) (k by_ : Int) (ho : (o.size : Int) ≤ 256) (hd : (d.size : Int) ≤ 131072) (S : ByteArray) (hS : (S.size : Int) = 20 + o.size + d.size) (httl : 0 ≤ ttl ∧ ttl ≤ 255) (hk : 0 ≤ k ∧ k ≤ 255) (hb : 0 ≤ by_ ∧ by_ ≤ 255) (E : Det Try.prog 26 [.a (hdr tos id hold more at_ ttl proto fr tt o), .o (.str d)] [] (.t [.o (.str S), .o (.int .i64 0)]) []) (tos2 id2 : Int) (hold2 more2 : Bool) (at_2 ttl2 proto2 fr2 tt2 : Int) (o2 d2 : ByteArray) (de : Int) (D : Det Try.prog 29 [.o (.str (setB S (0 + (k.tmod (20 + o.size)).toNat * 1) (((BitVec.ofInt IntKind.u8.bits (bAt S (0 + (k.tmod (20 + o.size)).toNat * 1)) ^^^ BitVec.ofInt IntKind.u8.bits by_).toNat : Nat) : Int)))] [] (.t [.a (hdr tos2 id2 hold2 more2 at_2 ttl2 proto2 fr2 tt2 o2), .o (.str d2), .o (.int .i64 de)]) []) (hfl : ¬ by_ = 0 → de ≠ 0 ∨ (k.tmod (20 + o.size) = 0 ∧ ((tos2 == tos) && ((id2 == id) && ((hold2 == hold) && ((more2 == more) && ((at_2 == at_) && ((ttl2 == ttl) && ((proto2 == proto) && ((fr2 == fr) && ((tt2 == tt) && ((o2.toList == o.toList) && true)))))))))) = false)) (hhigh : 2 ≤ ttl) (R : Int → ByteArray) (P0 : Det Try.prog 33 [.o (.str (S ++ ⟨#[98, 101, 104, 105, 110, 100]⟩))] [] (.t [.o (.str (R (ttl - 1))), .o (.int .i64 0)]) []) (E2 : Det Try.prog 26 [.a (hdr tos id hold more at_ (ttl - 1) proto fr tt o), .o (.str d)] [] (.t [.o (.str (R (ttl - 1))), .o (.int .i64 0)]) []) (PJ : ∀ j : Int, 2 ≤ j → j ≤ 255 → Det Try.prog 33 [.o (.str (R j))] [] (.t [.o (.str (R (j - 1))), .o (.int .i64 0)]) []) (P1 : Det Try.prog 33 [.o (.str (R 1))] [] (.t [.o (.str ⟨#[]⟩), .o (.int .i64 9)]) []) : Can Try.prog 11 [.a (hdr tos id hold more at_ ttl proto fr tt o), .o (.str d), .o (.int .u8 k), .o (.int .u8 by_)] [] (fun v _ => v = vB true) := by
  have hm : 0 ≤ k.tmod (20 + o.size) ∧ k.tmod (20 + o.size) < 20 + o.size := ⟨Int.tmod_nonneg _ hk.1, Int.tmod_lt_of_pos _ (by omega)⟩
  have hfl' : by_ = 0 ∨ ¬ de = 0 ∨ (k % (20 + (o.size : Int)) = 0 ∧ ((tos2 == tos) && ((id2 == id) && ((hold2 == hold) && ((more2 == more) && ((at_2 == at_) && ((ttl2 == ttl) && ((proto2 == proto) && ((fr2 == fr) && ((tt2 == tt) && ((o2.toList == o.toList) && true)))))))))) = false) := by
    have hte : k.tmod (20 + o.size) = k % (20 + (o.size : Int)) := Int.tmod_eq_emod_of_nonneg hk.1
    by_cases c : by_ = 0
    · exact .inl c
    · rcases hfl c with h | ⟨h1, h2⟩
      · exact .inr (.inl h)
      · exact .inr (.inr ⟨hte ▸ h1, h2⟩)
  clear hfl
  have hdl : decide (ttl > 1) = true := decide_eq_true (by omega)
  refine can_of_W known mix Try.func11 (by kernel_rfl) ok_law10_IpNew (Nat.le_of_ble_eq_true rfl) ?_
  repeat' ((conv => whnf); first
    | ((with_reducible refine Look.mk ?_); refine ⟨_, rfl, ?_⟩)
    | ((with_reducible refine LookN.zeros ?_))
    | ((with_reducible refine LookN.bytes ?_ ?_); (simp; done))
    | ((with_reducible refine BytesW.bytes ?_))
    | ((with_reducible refine Look.byte ?_ ?_); omega)
    | ((with_reducible refine Look.setb ?_ ?_ ?_); exact bv8_bd _; omega)
    | ((with_reducible refine LookN.setb ?_ ?_ ?_); exact bv8_bd _; omega)
    | ((with_reducible refine LookN.mk ?_); refine ⟨_, rfl, ?_⟩)
    | ((with_reducible refine Need.mk ?_ ?_); first | ((with_reducible refine needB ?_); kernel_rfl) | with_reducible rfl | omega | (with_reducible refine ⟨rfl, ?_⟩; focus omega) | (simp only [ByteArray.size_append, size_lit, List.size_toArray, List.length_cons, List.length_nil, Sp.ofB_size, ByteArray.size_extract]; omega) | exact rfl | trivial | exact Nat.le_of_ble_eq_true rfl | (exact ⟨rfl, by omega⟩) | (intro h; first | rfl | cases h) | (simp only [lenS_text, lenS_setN, lenS_zeros]; omega))
    | ((with_reducible refine BytesW.mk ?_); refine ⟨_, rfl, ?_⟩)
    | (with_reducible refine CallW.det (E) ?_)
    | (with_reducible refine CallW.det (P0) ?_)
    | (with_reducible refine CallW.det (E2) ?_)
    | (with_reducible refine CallW.det (alive10_det) ?_)
    | (with_reducible refine CallW.can (can_of_W known mix Try.func25 (by kernel_rfl) ok_law10_Long (Nat.le_of_ble_eq_true rfl) ?_) (fun _ _ h => h))
    | ((with_reducible refine Test.tmodEqT ?_ ?_ ?_); omega; focus first | omega | assumption)
    | ((with_reducible refine Test.tmodEqF ?_ ?_ ?_); omega; focus first | omega | assumption)
    | ((with_reducible refine Test.tmodNeT ?_ ?_ ?_); omega; focus first | omega | assumption)
    | ((with_reducible refine Test.tmodNeF ?_ ?_ ?_); omega; focus first | omega | assumption)
    | ((with_reducible refine Test.tmodEq ?_ (fun h => ?_) (fun h => ?_)); omega)
    | ((with_reducible refine Test.tmodNe ?_ (fun h => ?_) (fun h => ?_)); omega)
    | ((with_reducible refine Test.notT ?_ ?_); focus assumption)
    | ((with_reducible refine Test.notF ?_ ?_); focus assumption)
    | (with_reducible refine Test.notIe (fun h => ?_) (fun h => ?_))
    | (with_reducible refine Test.notD (fun h => ?_) (fun h => ?_))
    | ((with_reducible refine Test.empty (fun h => ?_) (fun h => ?_)))
    | (with_reducible refine Test.tt ?_)
    | (with_reducible refine Test.ff ?_)
    | ((with_reducible refine Test.dt ?_ ?_); omega)
    | ((with_reducible refine Test.df ?_ ?_); omega)
    | (with_reducible refine Test.d (fun h => ?_) (fun h => ?_))
    | ((with_reducible refine Test.ieT ?_ ?_); omega)
    | ((with_reducible refine Test.ieF ?_ ?_); omega)
    | ((with_reducible refine Test.neT ?_ ?_); omega)
    | ((with_reducible refine Test.neF ?_ ?_); omega)
    | (with_reducible refine Test.ie (fun h => ?_) (fun h => ?_))
    | (with_reducible refine Test.ne (fun h => ?_) (fun h => ?_))
    | ((with_reducible refine Test.b ?_ ?_); (focus first | assumption | (simp [negB]; done) | exact rfl | (rw [hc2]; simp [negB]; done) | (rw [hdl]; rfl)))
    | ((with_reducible refine Test.nb ?_ ?_); (focus first | assumption | (simp [negB]; done) | exact rfl | (rw [hc2]; simp [negB]; done) | (rw [hdl]; rfl)))
    | (with_reducible refine Test.notS (fun h => ?_) (fun h => ?_))
    | (with_reducible refine Test.mk (fun h => ?_) (fun h => ?_))
    | ((with_reducible refine Arith.tdiv ?_ ?_); omega)
    | (with_reducible refine Arith.bv8 ?_)
    | (with_reducible refine Arith.bv16 ?_)
    | (with_reducible refine Arith.bv32 ?_)
    | (with_reducible refine Arith.bv64 ?_)
    | ((with_reducible refine Arith.i64 ?_ ?_); omega)
    | ((with_reducible refine Arith.u64 ?_ ?_); omega)
    | ((with_reducible refine Arith.u32 ?_ ?_); omega)
    | ((with_reducible refine Arith.u16 ?_ ?_); omega)
    | ((with_reducible refine Arith.u8 ?_ ?_); omega)
    | ((with_reducible refine Arith.i32 ?_ ?_); omega)
    | ((with_reducible refine Arith.i64 ?_ ?_); simp (discharger := omega) only [Int.tdiv_eq_ediv_of_nonneg, shr_u8_4, shl_u8_4, shr_u16_4, shl_u16_4, shr_u16_8, shl_u16_8, shr_u32_4, shl_u32_4, shr_u32_8, shl_u32_8, shr_u32_16, shl_u32_16, shr_u32_24, shl_u32_24, shr_u64_4, shl_u64_4, shr_u64_8, shl_u64_8, shr_u64_16, shl_u64_16, shr_u64_24, shl_u64_24, shr_u64_40, shl_u64_40, shr_i64_4, shl_i64_4, shr_i64_8, shl_i64_8, shr_i64_16, shl_i64_16, shr_i64_24, shl_i64_24, shr_i64_40, shl_i64_40]; omega)
    | ((with_reducible refine Arith.u64 ?_ ?_); simp (discharger := omega) only [Int.tdiv_eq_ediv_of_nonneg, shr_u8_4, shl_u8_4, shr_u16_4, shl_u16_4, shr_u16_8, shl_u16_8, shr_u32_4, shl_u32_4, shr_u32_8, shl_u32_8, shr_u32_16, shl_u32_16, shr_u32_24, shl_u32_24, shr_u64_4, shl_u64_4, shr_u64_8, shl_u64_8, shr_u64_16, shl_u64_16, shr_u64_24, shl_u64_24, shr_u64_40, shl_u64_40, shr_i64_4, shl_i64_4, shr_i64_8, shl_i64_8, shr_i64_16, shl_i64_16, shr_i64_24, shl_i64_24, shr_i64_40, shl_i64_40]; omega)
    | ((with_reducible refine Arith.u32 ?_ ?_); simp (discharger := omega) only [Int.tdiv_eq_ediv_of_nonneg, shr_u8_4, shl_u8_4, shr_u16_4, shl_u16_4, shr_u16_8, shl_u16_8, shr_u32_4, shl_u32_4, shr_u32_8, shl_u32_8, shr_u32_16, shl_u32_16, shr_u32_24, shl_u32_24, shr_u64_4, shl_u64_4, shr_u64_8, shl_u64_8, shr_u64_16, shl_u64_16, shr_u64_24, shl_u64_24, shr_u64_40, shl_u64_40, shr_i64_4, shl_i64_4, shr_i64_8, shl_i64_8, shr_i64_16, shl_i64_16, shr_i64_24, shl_i64_24, shr_i64_40, shl_i64_40]; omega)
    | ((with_reducible refine Arith.u16 ?_ ?_); simp (discharger := omega) only [Int.tdiv_eq_ediv_of_nonneg, shr_u8_4, shl_u8_4, shr_u16_4, shl_u16_4, shr_u16_8, shl_u16_8, shr_u32_4, shl_u32_4, shr_u32_8, shl_u32_8, shr_u32_16, shl_u32_16, shr_u32_24, shl_u32_24, shr_u64_4, shl_u64_4, shr_u64_8, shl_u64_8, shr_u64_16, shl_u64_16, shr_u64_24, shl_u64_24, shr_u64_40, shl_u64_40, shr_i64_4, shl_i64_4, shr_i64_8, shl_i64_8, shr_i64_16, shl_i64_16, shr_i64_24, shl_i64_24, shr_i64_40, shl_i64_40]; omega)
    | ((with_reducible refine Arith.u8 ?_ ?_); simp (discharger := omega) only [Int.tdiv_eq_ediv_of_nonneg, shr_u8_4, shl_u8_4, shr_u16_4, shl_u16_4, shr_u16_8, shl_u16_8, shr_u32_4, shl_u32_4, shr_u32_8, shl_u32_8, shr_u32_16, shl_u32_16, shr_u32_24, shl_u32_24, shr_u64_4, shl_u64_4, shr_u64_8, shl_u64_8, shr_u64_16, shl_u64_16, shr_u64_24, shl_u64_24, shr_u64_40, shl_u64_40, shr_i64_4, shl_i64_4, shr_i64_8, shl_i64_8, shr_i64_16, shl_i64_16, shr_i64_24, shl_i64_24, shr_i64_40, shl_i64_40]; omega)
    | (with_reducible refine Arith.mk ?_)
    | (with_reducible refine Ends.mk ?_))
  refine LoopW.rule (fun m sl M => ∃ T f n, (sl = [(0, .p (.a (hdr tos id hold more at_ ttl proto fr tt o))), (1, vS d), (2, vI .u8 k), (3, vI .u8 by_), (4, vO (.ptr 0 0)), (8, vB false), (9, vS S), (10, vI .i64 0), (11, vS T), (12, vI .i64 f), (13, vO (.ptr 1 0)), (14, vS (R (ttl - 1))), (16, vI .i64 n)] ∨ ∃ T2 f2, sl = [(0, .p (.a (hdr tos id hold more at_ ttl proto fr tt o))), (1, vS d), (2, vI .u8 k), (3, vI .u8 by_), (4, vO (.ptr 0 0)), (8, vB false), (9, vS S), (10, vI .i64 0), (11, vS T), (12, vI .i64 f), (13, vO (.ptr 1 0)), (14, vS (R (ttl - 1))), (16, vI .i64 n), (17, vS T2), (18, vI .i64 f2)]) ∧ M = [.row true false (hdr tos id hold more at_ ttl proto fr tt o), .row true false (hdr tos id hold more at_ (ttl - 1) proto fr tt o)] ∧ ((∃ j : Int, 1 ≤ j ∧ j ≤ ttl - 1 ∧ n = ttl - 1 - j ∧ T = R j ∧ f = 0 ∧ m = j.toNat) ∨ (f = 9 ∧ n = ttl - 1 ∧ m = 0))) ?_ _ ⟨_, _, _, .inl rfl, rfl, .inl ⟨ttl - 1, by omega, by omega, by omega, rfl, rfl, rfl⟩⟩
  rintro m sl M ⟨T, f, n, hsl, rfl, hI⟩ X hX
  rcases hI with ⟨j, hj1, hj2, rfl, rfl, rfl, rfl⟩ | ⟨rfl, rfl, rfl⟩
  · by_cases hj : j = 1
    · subst hj
      rcases hsl with rfl | ⟨T2, f2, rfl⟩
      all_goals rcases hfl' with hc0 | hc1 | ⟨hc1, hc2⟩
      all_goals repeat' ((conv => whnf); first
    | ((with_reducible refine Look.mk ?_); refine ⟨_, rfl, ?_⟩)
    | ((with_reducible refine LookN.zeros ?_))
    | ((with_reducible refine LookN.bytes ?_ ?_); (simp; done))
    | ((with_reducible refine BytesW.bytes ?_))
    | ((with_reducible refine Look.byte ?_ ?_); omega)
    | ((with_reducible refine Look.setb ?_ ?_ ?_); exact bv8_bd _; omega)
    | ((with_reducible refine LookN.setb ?_ ?_ ?_); exact bv8_bd _; omega)
    | ((with_reducible refine LookN.mk ?_); refine ⟨_, rfl, ?_⟩)
    | ((with_reducible refine Need.mk ?_ ?_); first | ((with_reducible refine needB ?_); kernel_rfl) | with_reducible rfl | omega | (with_reducible refine ⟨rfl, ?_⟩; focus omega) | (simp only [ByteArray.size_append, size_lit, List.size_toArray, List.length_cons, List.length_nil, Sp.ofB_size, ByteArray.size_extract]; omega) | exact rfl | trivial | exact Nat.le_of_ble_eq_true rfl | (exact ⟨rfl, by omega⟩) | (intro h; first | rfl | cases h) | (simp only [lenS_text, lenS_setN, lenS_zeros]; omega))
    | ((with_reducible refine BytesW.mk ?_); refine ⟨_, rfl, ?_⟩)
    | (with_reducible refine CallW.det (P1) ?_)
    | (with_reducible refine CallW.det (D) ?_)
    | (with_reducible refine CallW.det (alive10_det) ?_)
    | (with_reducible refine CallW.can (can_of_W known mix Try.func25 (by kernel_rfl) ok_law10_Long (Nat.le_of_ble_eq_true rfl) ?_) (fun _ _ h => h))
    | (refine hX 0 (by omega) _ _ ⟨_, _, _, (by first | exact .inl rfl | exact .inr ⟨_, _, rfl⟩), rfl, .inr ⟨rfl, by omega, rfl⟩⟩)
    | ((with_reducible refine Test.tmodEqT ?_ ?_ ?_); omega; focus first | omega | assumption)
    | ((with_reducible refine Test.tmodEqF ?_ ?_ ?_); omega; focus first | omega | assumption)
    | ((with_reducible refine Test.tmodNeT ?_ ?_ ?_); omega; focus first | omega | assumption)
    | ((with_reducible refine Test.tmodNeF ?_ ?_ ?_); omega; focus first | omega | assumption)
    | ((with_reducible refine Test.tmodEq ?_ (fun h => ?_) (fun h => ?_)); omega)
    | ((with_reducible refine Test.tmodNe ?_ (fun h => ?_) (fun h => ?_)); omega)
    | ((with_reducible refine Test.notT ?_ ?_); focus assumption)
    | ((with_reducible refine Test.notF ?_ ?_); focus assumption)
    | (with_reducible refine Test.notIe (fun h => ?_) (fun h => ?_))
    | (with_reducible refine Test.notD (fun h => ?_) (fun h => ?_))
    | ((with_reducible refine Test.empty (fun h => ?_) (fun h => ?_)))
    | (with_reducible refine Test.tt ?_)
    | (with_reducible refine Test.ff ?_)
    | ((with_reducible refine Test.dt ?_ ?_); omega)
    | ((with_reducible refine Test.df ?_ ?_); omega)
    | (with_reducible refine Test.d (fun h => ?_) (fun h => ?_))
    | ((with_reducible refine Test.ieT ?_ ?_); omega)
    | ((with_reducible refine Test.ieF ?_ ?_); omega)
    | ((with_reducible refine Test.neT ?_ ?_); omega)
    | ((with_reducible refine Test.neF ?_ ?_); omega)
    | (with_reducible refine Test.ie (fun h => ?_) (fun h => ?_))
    | (with_reducible refine Test.ne (fun h => ?_) (fun h => ?_))
    | ((with_reducible refine Test.b ?_ ?_); (focus first | assumption | (simp [negB]; done) | exact rfl | (rw [hc2]; simp [negB]; done) | (rw [hdl]; rfl)))
    | ((with_reducible refine Test.nb ?_ ?_); (focus first | assumption | (simp [negB]; done) | exact rfl | (rw [hc2]; simp [negB]; done) | (rw [hdl]; rfl)))
    | (with_reducible refine Test.notS (fun h => ?_) (fun h => ?_))
    | (with_reducible refine Test.mk (fun h => ?_) (fun h => ?_))
    | ((with_reducible refine Arith.tdiv ?_ ?_); omega)
    | (with_reducible refine Arith.bv8 ?_)
    | (with_reducible refine Arith.bv16 ?_)
    | (with_reducible refine Arith.bv32 ?_)
    | (with_reducible refine Arith.bv64 ?_)
    | ((with_reducible refine Arith.i64 ?_ ?_); omega)
    | ((with_reducible refine Arith.u64 ?_ ?_); omega)
    | ((with_reducible refine Arith.u32 ?_ ?_); omega)
    | ((with_reducible refine Arith.u16 ?_ ?_); omega)
    | ((with_reducible refine Arith.u8 ?_ ?_); omega)
    | ((with_reducible refine Arith.i32 ?_ ?_); omega)
    | ((with_reducible refine Arith.i64 ?_ ?_); simp (discharger := omega) only [Int.tdiv_eq_ediv_of_nonneg, shr_u8_4, shl_u8_4, shr_u16_4, shl_u16_4, shr_u16_8, shl_u16_8, shr_u32_4, shl_u32_4, shr_u32_8, shl_u32_8, shr_u32_16, shl_u32_16, shr_u32_24, shl_u32_24, shr_u64_4, shl_u64_4, shr_u64_8, shl_u64_8, shr_u64_16, shl_u64_16, shr_u64_24, shl_u64_24, shr_u64_40, shl_u64_40, shr_i64_4, shl_i64_4, shr_i64_8, shl_i64_8, shr_i64_16, shl_i64_16, shr_i64_24, shl_i64_24, shr_i64_40, shl_i64_40]; omega)
    | ((with_reducible refine Arith.u64 ?_ ?_); simp (discharger := omega) only [Int.tdiv_eq_ediv_of_nonneg, shr_u8_4, shl_u8_4, shr_u16_4, shl_u16_4, shr_u16_8, shl_u16_8, shr_u32_4, shl_u32_4, shr_u32_8, shl_u32_8, shr_u32_16, shl_u32_16, shr_u32_24, shl_u32_24, shr_u64_4, shl_u64_4, shr_u64_8, shl_u64_8, shr_u64_16, shl_u64_16, shr_u64_24, shl_u64_24, shr_u64_40, shl_u64_40, shr_i64_4, shl_i64_4, shr_i64_8, shl_i64_8, shr_i64_16, shl_i64_16, shr_i64_24, shl_i64_24, shr_i64_40, shl_i64_40]; omega)
    | ((with_reducible refine Arith.u32 ?_ ?_); simp (discharger := omega) only [Int.tdiv_eq_ediv_of_nonneg, shr_u8_4, shl_u8_4, shr_u16_4, shl_u16_4, shr_u16_8, shl_u16_8, shr_u32_4, shl_u32_4, shr_u32_8, shl_u32_8, shr_u32_16, shl_u32_16, shr_u32_24, shl_u32_24, shr_u64_4, shl_u64_4, shr_u64_8, shl_u64_8, shr_u64_16, shl_u64_16, shr_u64_24, shl_u64_24, shr_u64_40, shl_u64_40, shr_i64_4, shl_i64_4, shr_i64_8, shl_i64_8, shr_i64_16, shl_i64_16, shr_i64_24, shl_i64_24, shr_i64_40, shl_i64_40]; omega)
    | ((with_reducible refine Arith.u16 ?_ ?_); simp (discharger := omega) only [Int.tdiv_eq_ediv_of_nonneg, shr_u8_4, shl_u8_4, shr_u16_4, shl_u16_4, shr_u16_8, shl_u16_8, shr_u32_4, shl_u32_4, shr_u32_8, shl_u32_8, shr_u32_16, shl_u32_16, shr_u32_24, shl_u32_24, shr_u64_4, shl_u64_4, shr_u64_8, shl_u64_8, shr_u64_16, shl_u64_16, shr_u64_24, shl_u64_24, shr_u64_40, shl_u64_40, shr_i64_4, shl_i64_4, shr_i64_8, shl_i64_8, shr_i64_16, shl_i64_16, shr_i64_24, shl_i64_24, shr_i64_40, shl_i64_40]; omega)
    | ((with_reducible refine Arith.u8 ?_ ?_); simp (discharger := omega) only [Int.tdiv_eq_ediv_of_nonneg, shr_u8_4, shl_u8_4, shr_u16_4, shl_u16_4, shr_u16_8, shl_u16_8, shr_u32_4, shl_u32_4, shr_u32_8, shl_u32_8, shr_u32_16, shl_u32_16, shr_u32_24, shl_u32_24, shr_u64_4, shl_u64_4, shr_u64_8, shl_u64_8, shr_u64_16, shl_u64_16, shr_u64_24, shl_u64_24, shr_u64_40, shl_u64_40, shr_i64_4, shl_i64_4, shr_i64_8, shl_i64_8, shr_i64_16, shl_i64_16, shr_i64_24, shl_i64_24, shr_i64_40, shl_i64_40]; omega)
    | (with_reducible refine Arith.mk ?_)
    | (with_reducible refine Ends.mk ?_))
      all_goals rfl
    · rcases hsl with rfl | ⟨T2, f2, rfl⟩
      all_goals rcases hfl' with hc0 | hc1 | ⟨hc1, hc2⟩
      all_goals repeat' ((conv => whnf); first
    | ((with_reducible refine Look.mk ?_); refine ⟨_, rfl, ?_⟩)
    | ((with_reducible refine LookN.zeros ?_))
    | ((with_reducible refine LookN.bytes ?_ ?_); (simp; done))
    | ((with_reducible refine BytesW.bytes ?_))
    | ((with_reducible refine Look.byte ?_ ?_); omega)
    | ((with_reducible refine Look.setb ?_ ?_ ?_); exact bv8_bd _; omega)
    | ((with_reducible refine LookN.setb ?_ ?_ ?_); exact bv8_bd _; omega)
    | ((with_reducible refine LookN.mk ?_); refine ⟨_, rfl, ?_⟩)
    | ((with_reducible refine Need.mk ?_ ?_); first | ((with_reducible refine needB ?_); kernel_rfl) | with_reducible rfl | omega | (with_reducible refine ⟨rfl, ?_⟩; focus omega) | (simp only [ByteArray.size_append, size_lit, List.size_toArray, List.length_cons, List.length_nil, Sp.ofB_size, ByteArray.size_extract]; omega) | exact rfl | trivial | exact Nat.le_of_ble_eq_true rfl | (exact ⟨rfl, by omega⟩) | (intro h; first | rfl | cases h) | (simp only [lenS_text, lenS_setN, lenS_zeros]; omega))
    | ((with_reducible refine BytesW.mk ?_); refine ⟨_, rfl, ?_⟩)
    | (with_reducible refine CallW.det (PJ j (by omega) (by omega)) ?_)
    | (with_reducible refine CallW.det (D) ?_)
    | (with_reducible refine CallW.det (alive10_det) ?_)
    | (with_reducible refine CallW.can (can_of_W known mix Try.func25 (by kernel_rfl) ok_law10_Long (Nat.le_of_ble_eq_true rfl) ?_) (fun _ _ h => h))
    | (refine hX _ (show j.toNat - 1 < j.toNat by omega) _ _ ⟨_, _, _, (by first | exact .inl rfl | exact .inr ⟨_, _, rfl⟩), rfl, .inl ⟨j - 1, by omega, by omega, by omega, rfl, by omega, by omega⟩⟩)
    | ((with_reducible refine Test.tmodEqT ?_ ?_ ?_); omega; focus first | omega | assumption)
    | ((with_reducible refine Test.tmodEqF ?_ ?_ ?_); omega; focus first | omega | assumption)
    | ((with_reducible refine Test.tmodNeT ?_ ?_ ?_); omega; focus first | omega | assumption)
    | ((with_reducible refine Test.tmodNeF ?_ ?_ ?_); omega; focus first | omega | assumption)
    | ((with_reducible refine Test.tmodEq ?_ (fun h => ?_) (fun h => ?_)); omega)
    | ((with_reducible refine Test.tmodNe ?_ (fun h => ?_) (fun h => ?_)); omega)
    | ((with_reducible refine Test.notT ?_ ?_); focus assumption)
    | ((with_reducible refine Test.notF ?_ ?_); focus assumption)
    | (with_reducible refine Test.notIe (fun h => ?_) (fun h => ?_))
    | (with_reducible refine Test.notD (fun h => ?_) (fun h => ?_))
    | ((with_reducible refine Test.empty (fun h => ?_) (fun h => ?_)))
    | (with_reducible refine Test.tt ?_)
    | (with_reducible refine Test.ff ?_)
    | ((with_reducible refine Test.dt ?_ ?_); omega)
    | ((with_reducible refine Test.df ?_ ?_); omega)
    | (with_reducible refine Test.d (fun h => ?_) (fun h => ?_))
    | ((with_reducible refine Test.ieT ?_ ?_); omega)
    | ((with_reducible refine Test.ieF ?_ ?_); omega)
    | ((with_reducible refine Test.neT ?_ ?_); omega)
    | ((with_reducible refine Test.neF ?_ ?_); omega)
    | (with_reducible refine Test.ie (fun h => ?_) (fun h => ?_))
    | (with_reducible refine Test.ne (fun h => ?_) (fun h => ?_))
    | ((with_reducible refine Test.b ?_ ?_); (focus first | assumption | (simp [negB]; done) | exact rfl | (rw [hc2]; simp [negB]; done) | (rw [hdl]; rfl)))
    | ((with_reducible refine Test.nb ?_ ?_); (focus first | assumption | (simp [negB]; done) | exact rfl | (rw [hc2]; simp [negB]; done) | (rw [hdl]; rfl)))
    | (with_reducible refine Test.notS (fun h => ?_) (fun h => ?_))
    | (with_reducible refine Test.mk (fun h => ?_) (fun h => ?_))
    | ((with_reducible refine Arith.tdiv ?_ ?_); omega)
    | (with_reducible refine Arith.bv8 ?_)
    | (with_reducible refine Arith.bv16 ?_)
    | (with_reducible refine Arith.bv32 ?_)
    | (with_reducible refine Arith.bv64 ?_)
    | ((with_reducible refine Arith.i64 ?_ ?_); omega)
    | ((with_reducible refine Arith.u64 ?_ ?_); omega)
    | ((with_reducible refine Arith.u32 ?_ ?_); omega)
    | ((with_reducible refine Arith.u16 ?_ ?_); omega)
    | ((with_reducible refine Arith.u8 ?_ ?_); omega)
    | ((with_reducible refine Arith.i32 ?_ ?_); omega)
    | ((with_reducible refine Arith.i64 ?_ ?_); simp (discharger := omega) only [Int.tdiv_eq_ediv_of_nonneg, shr_u8_4, shl_u8_4, shr_u16_4, shl_u16_4, shr_u16_8, shl_u16_8, shr_u32_4, shl_u32_4, shr_u32_8, shl_u32_8, shr_u32_16, shl_u32_16, shr_u32_24, shl_u32_24, shr_u64_4, shl_u64_4, shr_u64_8, shl_u64_8, shr_u64_16, shl_u64_16, shr_u64_24, shl_u64_24, shr_u64_40, shl_u64_40, shr_i64_4, shl_i64_4, shr_i64_8, shl_i64_8, shr_i64_16, shl_i64_16, shr_i64_24, shl_i64_24, shr_i64_40, shl_i64_40]; omega)
    | ((with_reducible refine Arith.u64 ?_ ?_); simp (discharger := omega) only [Int.tdiv_eq_ediv_of_nonneg, shr_u8_4, shl_u8_4, shr_u16_4, shl_u16_4, shr_u16_8, shl_u16_8, shr_u32_4, shl_u32_4, shr_u32_8, shl_u32_8, shr_u32_16, shl_u32_16, shr_u32_24, shl_u32_24, shr_u64_4, shl_u64_4, shr_u64_8, shl_u64_8, shr_u64_16, shl_u64_16, shr_u64_24, shl_u64_24, shr_u64_40, shl_u64_40, shr_i64_4, shl_i64_4, shr_i64_8, shl_i64_8, shr_i64_16, shl_i64_16, shr_i64_24, shl_i64_24, shr_i64_40, shl_i64_40]; omega)
    | ((with_reducible refine Arith.u32 ?_ ?_); simp (discharger := omega) only [Int.tdiv_eq_ediv_of_nonneg, shr_u8_4, shl_u8_4, shr_u16_4, shl_u16_4, shr_u16_8, shl_u16_8, shr_u32_4, shl_u32_4, shr_u32_8, shl_u32_8, shr_u32_16, shl_u32_16, shr_u32_24, shl_u32_24, shr_u64_4, shl_u64_4, shr_u64_8, shl_u64_8, shr_u64_16, shl_u64_16, shr_u64_24, shl_u64_24, shr_u64_40, shl_u64_40, shr_i64_4, shl_i64_4, shr_i64_8, shl_i64_8, shr_i64_16, shl_i64_16, shr_i64_24, shl_i64_24, shr_i64_40, shl_i64_40]; omega)
    | ((with_reducible refine Arith.u16 ?_ ?_); simp (discharger := omega) only [Int.tdiv_eq_ediv_of_nonneg, shr_u8_4, shl_u8_4, shr_u16_4, shl_u16_4, shr_u16_8, shl_u16_8, shr_u32_4, shl_u32_4, shr_u32_8, shl_u32_8, shr_u32_16, shl_u32_16, shr_u32_24, shl_u32_24, shr_u64_4, shl_u64_4, shr_u64_8, shl_u64_8, shr_u64_16, shl_u64_16, shr_u64_24, shl_u64_24, shr_u64_40, shl_u64_40, shr_i64_4, shl_i64_4, shr_i64_8, shl_i64_8, shr_i64_16, shl_i64_16, shr_i64_24, shl_i64_24, shr_i64_40, shl_i64_40]; omega)
    | ((with_reducible refine Arith.u8 ?_ ?_); simp (discharger := omega) only [Int.tdiv_eq_ediv_of_nonneg, shr_u8_4, shl_u8_4, shr_u16_4, shl_u16_4, shr_u16_8, shl_u16_8, shr_u32_4, shl_u32_4, shr_u32_8, shl_u32_8, shr_u32_16, shl_u32_16, shr_u32_24, shl_u32_24, shr_u64_4, shl_u64_4, shr_u64_8, shl_u64_8, shr_u64_16, shl_u64_16, shr_u64_24, shl_u64_24, shr_u64_40, shl_u64_40, shr_i64_4, shl_i64_4, shr_i64_8, shl_i64_8, shr_i64_16, shl_i64_16, shr_i64_24, shl_i64_24, shr_i64_40, shl_i64_40]; omega)
    | (with_reducible refine Arith.mk ?_)
    | (with_reducible refine Ends.mk ?_))
      all_goals rfl
  · rcases hsl with rfl | ⟨T2, f2, rfl⟩
    all_goals rcases hfl' with hc0 | hc1 | ⟨hc1, hc2⟩
    all_goals repeat' ((conv => whnf); first
    | ((with_reducible refine Look.mk ?_); refine ⟨_, rfl, ?_⟩)
    | ((with_reducible refine LookN.zeros ?_))
    | ((with_reducible refine LookN.bytes ?_ ?_); (simp; done))
    | ((with_reducible refine BytesW.bytes ?_))
    | ((with_reducible refine Look.byte ?_ ?_); omega)
    | ((with_reducible refine Look.setb ?_ ?_ ?_); exact bv8_bd _; omega)
    | ((with_reducible refine LookN.setb ?_ ?_ ?_); exact bv8_bd _; omega)
    | ((with_reducible refine LookN.mk ?_); refine ⟨_, rfl, ?_⟩)
    | ((with_reducible refine Need.mk ?_ ?_); first | ((with_reducible refine needB ?_); kernel_rfl) | with_reducible rfl | omega | (with_reducible refine ⟨rfl, ?_⟩; focus omega) | (simp only [ByteArray.size_append, size_lit, List.size_toArray, List.length_cons, List.length_nil, Sp.ofB_size, ByteArray.size_extract]; omega) | exact rfl | trivial | exact Nat.le_of_ble_eq_true rfl | (exact ⟨rfl, by omega⟩) | (intro h; first | rfl | cases h) | (simp only [lenS_text, lenS_setN, lenS_zeros]; omega))
    | ((with_reducible refine BytesW.mk ?_); refine ⟨_, rfl, ?_⟩)
    | (with_reducible refine CallW.det (D) ?_)
    | (with_reducible refine CallW.det (alive10_det) ?_)
    | (with_reducible refine CallW.can (can_of_W known mix Try.func25 (by kernel_rfl) ok_law10_Long (Nat.le_of_ble_eq_true rfl) ?_) (fun _ _ h => h))
    | ((with_reducible refine Test.tmodEqT ?_ ?_ ?_); omega; focus first | omega | assumption)
    | ((with_reducible refine Test.tmodEqF ?_ ?_ ?_); omega; focus first | omega | assumption)
    | ((with_reducible refine Test.tmodNeT ?_ ?_ ?_); omega; focus first | omega | assumption)
    | ((with_reducible refine Test.tmodNeF ?_ ?_ ?_); omega; focus first | omega | assumption)
    | ((with_reducible refine Test.tmodEq ?_ (fun h => ?_) (fun h => ?_)); omega)
    | ((with_reducible refine Test.tmodNe ?_ (fun h => ?_) (fun h => ?_)); omega)
    | ((with_reducible refine Test.notT ?_ ?_); focus assumption)
    | ((with_reducible refine Test.notF ?_ ?_); focus assumption)
    | (with_reducible refine Test.notIe (fun h => ?_) (fun h => ?_))
    | (with_reducible refine Test.notD (fun h => ?_) (fun h => ?_))
    | ((with_reducible refine Test.empty (fun h => ?_) (fun h => ?_)))
    | (with_reducible refine Test.tt ?_)
    | (with_reducible refine Test.ff ?_)
    | ((with_reducible refine Test.dt ?_ ?_); omega)
    | ((with_reducible refine Test.df ?_ ?_); omega)
    | (with_reducible refine Test.d (fun h => ?_) (fun h => ?_))
    | ((with_reducible refine Test.ieT ?_ ?_); omega)
    | ((with_reducible refine Test.ieF ?_ ?_); omega)
    | ((with_reducible refine Test.neT ?_ ?_); omega)
    | ((with_reducible refine Test.neF ?_ ?_); omega)
    | (with_reducible refine Test.ie (fun h => ?_) (fun h => ?_))
    | (with_reducible refine Test.ne (fun h => ?_) (fun h => ?_))
    | ((with_reducible refine Test.b ?_ ?_); (focus first | assumption | (simp [negB]; done) | exact rfl | (rw [hc2]; simp [negB]; done) | (rw [hdl]; rfl)))
    | ((with_reducible refine Test.nb ?_ ?_); (focus first | assumption | (simp [negB]; done) | exact rfl | (rw [hc2]; simp [negB]; done) | (rw [hdl]; rfl)))
    | (with_reducible refine Test.notS (fun h => ?_) (fun h => ?_))
    | (with_reducible refine Test.mk (fun h => ?_) (fun h => ?_))
    | ((with_reducible refine Arith.tdiv ?_ ?_); omega)
    | (with_reducible refine Arith.bv8 ?_)
    | (with_reducible refine Arith.bv16 ?_)
    | (with_reducible refine Arith.bv32 ?_)
    | (with_reducible refine Arith.bv64 ?_)
    | ((with_reducible refine Arith.i64 ?_ ?_); omega)
    | ((with_reducible refine Arith.u64 ?_ ?_); omega)
    | ((with_reducible refine Arith.u32 ?_ ?_); omega)
    | ((with_reducible refine Arith.u16 ?_ ?_); omega)
    | ((with_reducible refine Arith.u8 ?_ ?_); omega)
    | ((with_reducible refine Arith.i32 ?_ ?_); omega)
    | ((with_reducible refine Arith.i64 ?_ ?_); simp (discharger := omega) only [Int.tdiv_eq_ediv_of_nonneg, shr_u8_4, shl_u8_4, shr_u16_4, shl_u16_4, shr_u16_8, shl_u16_8, shr_u32_4, shl_u32_4, shr_u32_8, shl_u32_8, shr_u32_16, shl_u32_16, shr_u32_24, shl_u32_24, shr_u64_4, shl_u64_4, shr_u64_8, shl_u64_8, shr_u64_16, shl_u64_16, shr_u64_24, shl_u64_24, shr_u64_40, shl_u64_40, shr_i64_4, shl_i64_4, shr_i64_8, shl_i64_8, shr_i64_16, shl_i64_16, shr_i64_24, shl_i64_24, shr_i64_40, shl_i64_40]; omega)
    | ((with_reducible refine Arith.u64 ?_ ?_); simp (discharger := omega) only [Int.tdiv_eq_ediv_of_nonneg, shr_u8_4, shl_u8_4, shr_u16_4, shl_u16_4, shr_u16_8, shl_u16_8, shr_u32_4, shl_u32_4, shr_u32_8, shl_u32_8, shr_u32_16, shl_u32_16, shr_u32_24, shl_u32_24, shr_u64_4, shl_u64_4, shr_u64_8, shl_u64_8, shr_u64_16, shl_u64_16, shr_u64_24, shl_u64_24, shr_u64_40, shl_u64_40, shr_i64_4, shl_i64_4, shr_i64_8, shl_i64_8, shr_i64_16, shl_i64_16, shr_i64_24, shl_i64_24, shr_i64_40, shl_i64_40]; omega)
    | ((with_reducible refine Arith.u32 ?_ ?_); simp (discharger := omega) only [Int.tdiv_eq_ediv_of_nonneg, shr_u8_4, shl_u8_4, shr_u16_4, shl_u16_4, shr_u16_8, shl_u16_8, shr_u32_4, shl_u32_4, shr_u32_8, shl_u32_8, shr_u32_16, shl_u32_16, shr_u32_24, shl_u32_24, shr_u64_4, shl_u64_4, shr_u64_8, shl_u64_8, shr_u64_16, shl_u64_16, shr_u64_24, shl_u64_24, shr_u64_40, shl_u64_40, shr_i64_4, shl_i64_4, shr_i64_8, shl_i64_8, shr_i64_16, shl_i64_16, shr_i64_24, shl_i64_24, shr_i64_40, shl_i64_40]; omega)
    | ((with_reducible refine Arith.u16 ?_ ?_); simp (discharger := omega) only [Int.tdiv_eq_ediv_of_nonneg, shr_u8_4, shl_u8_4, shr_u16_4, shl_u16_4, shr_u16_8, shl_u16_8, shr_u32_4, shl_u32_4, shr_u32_8, shl_u32_8, shr_u32_16, shl_u32_16, shr_u32_24, shl_u32_24, shr_u64_4, shl_u64_4, shr_u64_8, shl_u64_8, shr_u64_16, shl_u64_16, shr_u64_24, shl_u64_24, shr_u64_40, shl_u64_40, shr_i64_4, shl_i64_4, shr_i64_8, shl_i64_8, shr_i64_16, shl_i64_16, shr_i64_24, shl_i64_24, shr_i64_40, shl_i64_40]; omega)
    | ((with_reducible refine Arith.u8 ?_ ?_); simp (discharger := omega) only [Int.tdiv_eq_ediv_of_nonneg, shr_u8_4, shl_u8_4, shr_u16_4, shl_u16_4, shr_u16_8, shl_u16_8, shr_u32_4, shl_u32_4, shr_u32_8, shl_u32_8, shr_u32_16, shl_u32_16, shr_u32_24, shl_u32_24, shr_u64_4, shl_u64_4, shr_u64_8, shl_u64_8, shr_u64_16, shl_u64_16, shr_u64_24, shl_u64_24, shr_u64_40, shl_u64_40, shr_i64_4, shl_i64_4, shr_i64_8, shl_i64_8, shr_i64_16, shl_i64_16, shr_i64_24, shl_i64_24, shr_i64_40, shl_i64_40]; omega)
    | (with_reducible refine Arith.mk ?_)
    | (with_reducible refine Ends.mk ?_))
    all_goals rfl
theorem ipnew_row (tos id : Int) (hold more : Bool) (at_ ttl proto fr tt : Int) (o : ByteArray) (d : ByteArray) (k by_ : Int) (w_ : World) (htos : 0 ≤ tos ∧ tos ≤ 255) (hid : 0 ≤ id ∧ id ≤ 65535) (hat : -9223372036854775808 ≤ at_ ∧ at_ ≤ 9223372036854775807) (httl : 0 ≤ ttl ∧ ttl ≤ 255) (hproto : 0 ≤ proto ∧ proto ≤ 255) (hfr : 0 ≤ fr ∧ fr ≤ 4294967295) (htt : 0 ≤ tt ∧ tt ≤ 4294967295) (ho_ : o.size ≤ maxLen) (hd_ : d.size ≤ maxLen) (hk : 0 ≤ k ∧ k ≤ 255) (hb : 0 ≤ by_ ∧ by_ ≤ 255) :
    Calls Try.prog 11 #[.agg #[.int .u8 tos, .int .u16 id, .bool hold, .bool more, .int .i64 at_, .int .u8 ttl, .int .u8 proto, .int .u32 fr, .int .u32 tt, .string o], .string d, .int .u8 k, .int .u8 by_] w_ fun e w' => e = .returned (.bool true) ∧ Below w_.heap.size w_ w' := by
  by_cases h : (o.size : Int) ≤ 256 ∧ (d.size : Int) ≤ 131072
  · obtain ⟨h1, h2⟩ := h
    have E := enc_det tos id hold more at_ ttl proto fr tt o d htos hid hat httl hproto hfr htt (by omega) (by omega)
    by_cases he : enc10e more at_ o d = 0
    · obtain ⟨hm, hwh, hf⟩ := enc10_ok he
      have hmb := may10_bd hm
      have hfb := of_decide_eq_true hf
      have hRs : ∀ j, (R10 tos id hold more at_ proto fr tt o d j).size = 20 + o.size + d.size := fun j => by unfold R10; rw [ByteArray.size_append, header10_size]
      have hpass : ∀ (j : Int) (r : ByteArray), 0 ≤ j ∧ j ≤ 255 → r.size ≤ 10 → Det Try.prog 33 [.o (.str (R10 tos id hold more at_ proto fr tt o d j ++ r))] [] (.t [.o (.str (if j < 2 then ⟨#[]⟩ else R10 tos id hold more at_ proto fr tt o d (j - 1))), .o (.int .i64 (if j < 2 then 9 else 0))]) [] := fun j r hj hr => by
        have := pass_det (R10 tos id hold more at_ proto fr tt o d j ++ r) (by rw [ByteArray.size_append, hRs]; omega)
        obtain ⟨p1, p2⟩ := pass_own tos id hold more at_ proto fr tt o d r j htos hid hat hproto hfr htt he hj
        rwa [p1, p2] at this
      have hpass0 : ∀ j : Int, 0 ≤ j ∧ j ≤ 255 → Det Try.prog 33 [.o (.str (R10 tos id hold more at_ proto fr tt o d j))] [] (.t [.o (.str (if j < 2 then ⟨#[]⟩ else R10 tos id hold more at_ proto fr tt o d (j - 1))), .o (.int .i64 (if j < 2 then 9 else 0))]) [] := fun j hj => by
        have := hpass j ⟨#[]⟩ hj (by decide)
        rwa [app_nil] at this
      rw [show enc10 tos id hold more at_ ttl proto fr tt o d = R10 tos id hold more at_ proto fr tt o d ttl from if_pos he, he] at E
      have SP := says10 tos id hold more at_ ttl proto fr tt o d d.size htos hid (by omega) httl hproto hfr htt hmb.2.2.2.1 (by omega)
      have hS := hRs ttl
      have P0 := hpass ttl ⟨#[98, 101, 104, 105, 110, 100]⟩ httl (by decide)
      have hm2 : 0 ≤ k.tmod (20 + o.size) ∧ k.tmod (20 + o.size) < 20 + o.size := ⟨Int.tmod_nonneg _ hk.1, Int.tmod_lt_of_pos _ (by omega)⟩
      rw [show header10 tos id hold more at_ ttl proto fr tt o d.size ++ d = R10 tos id hold more at_ proto fr tt o d ttl from rfl] at SP
      obtain ⟨S, hSS⟩ : ∃ S, S = R10 tos id hold more at_ proto fr tt o d ttl := ⟨_, rfl⟩
      rw [← hSS] at E SP hS P0
      have D := dec_det (setB S (0 + (k.tmod (20 + o.size)).toNat * 1) (((BitVec.ofInt IntKind.u8.bits (bAt S (0 + (k.tmod (20 + o.size)).toNat * 1)) ^^^ BitVec.ofInt IntKind.u8.bits by_).toNat : Nat) : Int)) (by rw [setB_size]; omega)
      obtain ⟨tos2, id2, hold2, more2, at_2, ttl2, proto2, fr2, tt2, o2, q⟩ := dec10_form' (setB S (0 + (k.tmod (20 + o.size)).toNat * 1) (((BitVec.ofInt IntKind.u8.bits (bAt S (0 + (k.tmod (20 + o.size)).toNat * 1)) ^^^ BitVec.ofInt IntKind.u8.bits by_).toNat : Nat) : Int))
      have hbt := bAt_bd S (0 + (k.tmod (20 + o.size)).toNat * 1)
      have hsame : (((BitVec.ofInt IntKind.u8.bits (bAt S (0 + (k.tmod (20 + o.size)).toNat * 1)) ^^^ BitVec.ofInt IntKind.u8.bits by_).toNat : Nat) : Int) = bAt S (0 + (k.tmod (20 + o.size)).toNat * 1) ↔ by_ = 0 := bxor_same _ _ _ hbt.1 (show _ < (256 : Int) by omega) hb.1 (show _ < (256 : Int) by omega)
      have hfl : ¬ by_ = 0 → dec10e (setB S (0 + (k.tmod (20 + o.size)).toNat * 1) (((BitVec.ofInt IntKind.u8.bits (bAt S (0 + (k.tmod (20 + o.size)).toNat * 1)) ^^^ BitVec.ofInt IntKind.u8.bits by_).toNat : Nat) : Int)) ≠ 0 ∨ (k.tmod (20 + o.size) = 0 ∧ ((tos2 == tos) && ((id2 == id) && ((hold2 == hold) && ((more2 == more) && ((at_2 == at_) && ((ttl2 == ttl) && ((proto2 == proto) && ((fr2 == fr) && ((tt2 == tt) && ((o2.toList == o.toList) && true)))))))))) = false) := fun hb0 => by
        rcases told10 SP hmb.2.2.2.1 hmb.2.2.2.2 (0 + (k.tmod (20 + o.size)).toNat * 1) (by omega) (((BitVec.ofInt IntKind.u8.bits (bAt S (0 + (k.tmod (20 + o.size)).toNat * 1)) ^^^ BitVec.ofInt IntKind.u8.bits by_).toNat : Nat) : Int) (bv8_bd _) (fun e => hb0 (hsame.1 e)) with t | ⟨t1, t2⟩
        · exact .inl t
        · have := t2 _ _ _ _ _ _ _ _ _ _ q
          have e : (o2.toList == o.toList) = false := by
            rw [beq_eq_false_iff_ne, ByteArray.toList_eq, ByteArray.toList_eq]
            intro e
            exact this (congrArg ByteArray.size (ba_ext e))
          exact .inr ⟨by omega, by rw [e]; simp⟩
      rw [q] at D
      by_cases hlow : ttl < 2
      · rw [if_pos hlow, if_pos hlow] at P0
        exact calls_of_can (ipnew_low tos id hold more at_ ttl proto fr tt o d k by_ h1 h2 S (by omega) httl hk hb E _ _ _ _ _ _ _ _ _ _ _ _ D hfl hlow P0) rfl rfl w_
      · rw [if_neg hlow, if_neg hlow] at P0
        have E2 := enc_det tos id hold more at_ (ttl - 1) proto fr tt o d htos hid hat (by omega) hproto hfr htt (by omega) (by omega)
        rw [show enc10 tos id hold more at_ (ttl - 1) proto fr tt o d = R10 tos id hold more at_ proto fr tt o d (ttl - 1) from if_pos he, he] at E2
        refine calls_of_can (ipnew_high tos id hold more at_ ttl proto fr tt o d k by_ h1 h2 S (by omega) httl hk hb E _ _ _ _ _ _ _ _ _ _ _ _ D hfl (by omega) (R10 tos id hold more at_ proto fr tt o d) P0 E2 (fun j hj1 hj2 => ?_) ?_) rfl rfl w_
        · have := hpass0 j (by omega)
          rwa [if_neg (by omega), if_neg (by omega)] at this
        · have := hpass0 1 (by omega)
          rwa [if_pos (by omega), if_pos (by omega)] at this
    · exact calls_of_can (ipnew_no tos id hold more at_ ttl proto fr tt o d k by_ h1 h2 _ _ he E) rfl rfl w_
  · exact calls_of_can (ipnew_far tos id hold more at_ ttl proto fr tt o d k by_ h) rfl rfl w_
end G2
end Go.Proofs.Ytnmeeafnobfobaa.VM
