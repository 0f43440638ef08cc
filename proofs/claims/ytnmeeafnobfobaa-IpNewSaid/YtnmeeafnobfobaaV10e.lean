/- law 10 by the evaluator: the law IpBack. -/
import Derived.Test.YtnmeeafnobfobaaV10d
namespace Go.Proofs.Ytnmeeafnobfobaa.VM
namespace G2
open Go.RowKit
set_option linter.unusedVariables false
set_option linter.unusedSimpArgs false
set_option maxRecDepth 100000
def vf_law10_IpBack : VFn := ⟨(.seq (.reg [
    ⟨(some 6), .box (.t 0), none, 0⟩,
    ⟨(some 7), .box (.t 1), none, 1⟩,
    ⟨(some 12), .mv (.c (.p (.o (.bool false)))), none, 2⟩] 2 none) (.seq (.seq (.reg [
    ⟨(some 23), .ld (some 10) (.t 6), none, 0⟩,
    ⟨(some 24), .mv (.t 2), none, 0⟩,
    ⟨(some 25), .call 25 [(.t 23), (.t 24)] 0, none, 0⟩,
    ⟨(some 26), .mv (.t 25), none, 0⟩,
    ⟨(some 27), .ld (some 10) (.t 7), (some (26, false)), 0⟩,
    ⟨(some 28), .mv (.t 3), (some (26, false)), 0⟩,
    ⟨(some 29), .call 25 [(.t 27), (.t 28)] 0, (some (26, false)), 0⟩,
    ⟨(some 30), .pick (.t 26) (.c (.p (.o (.bool true)))) (.t 29), none, 0⟩,
    ⟨(some 31), .mv (.t 30), none, 0⟩,
    ⟨(some 32), .mv (.t 4), (some (31, false)), 0⟩,
    ⟨(some 33), .len false (.t 32), (some (31, false)), 0⟩,
    ⟨(some 34), .bin .gtr (.t 33) (.c (.p (.o (.int .i64 4096)))), (some (31, false)), 0⟩,
    ⟨(some 35), .pick (.t 31) (.c (.p (.o (.bool true)))) (.t 34), none, 0⟩] 0 none) (.cond (.t 35) (.seq (.reg [
    ⟨(some 36), .call 27 [] 0, none, 0⟩,
    ⟨(some 12), .mv (.t 36), none, 0⟩] 0 none) .ret) .skip)) (.seq (.reg [
    ⟨(some 38), .ld (some 10) (.t 6), none, 0⟩,
    ⟨(some 39), .mv (.t 2), none, 0⟩,
    ⟨(some 40), .call 26 [(.t 38), (.t 39)] 0, none, 0⟩,
    ⟨(some 37), .mv (.t 40), none, 0⟩,
    ⟨(some 41), .ext 0 (.t 37), none, 0⟩,
    ⟨(some 42), .ext 1 (.t 37), none, 0⟩,
    ⟨(some 13), .mv (.t 41), none, 0⟩,
    ⟨(some 14), .mv (.t 42), none, 0⟩] 0 none) (.seq (.reg [
    ⟨(some 44), .ld (some 10) (.t 7), none, 0⟩,
    ⟨(some 45), .mv (.t 3), none, 0⟩,
    ⟨(some 46), .call 26 [(.t 44), (.t 45)] 0, none, 0⟩,
    ⟨(some 43), .mv (.t 46), none, 0⟩,
    ⟨(some 47), .ext 0 (.t 43), none, 0⟩,
    ⟨(some 48), .ext 1 (.t 43), none, 0⟩,
    ⟨(some 15), .mv (.t 47), none, 0⟩,
    ⟨(some 16), .mv (.t 48), none, 0⟩] 0 none) (.seq (.seq (.reg [
    ⟨(some 49), .mv (.t 14), none, 0⟩,
    ⟨(some 50), .bin .neq (.t 49) (.c (.p (.o (.int .i64 0)))), none, 0⟩] 0 none) (.cond (.t 50) (.seq (.reg [
    ⟨(some 51), .call 27 [] 0, none, 0⟩,
    ⟨(some 12), .mv (.t 51), none, 0⟩] 0 none) .ret) .skip)) (.seq (.reg [
    ⟨(some 53), .mv (.t 13), none, 0⟩,
    ⟨(some 54), .mv (.t 4), none, 0⟩,
    ⟨(some 55), .bin .add (.t 53) (.t 54), none, 0⟩,
    ⟨(some 56), .call 29 [(.t 55)] 0, none, 0⟩,
    ⟨(some 52), .mv (.t 56), none, 0⟩,
    ⟨(some 57), .ext 0 (.t 52), none, 0⟩,
    ⟨(some 58), .ext 1 (.t 52), none, 0⟩,
    ⟨(some 59), .ext 2 (.t 52), none, 0⟩,
    ⟨(some 17), .new [.int .u8 0, .int .u16 0, .bool false, .bool false, .int .i64 0, .int .u8 0, .int .u8 0, .int .u32 0, .int .u32 0, .str ⟨#[]⟩], none, 0⟩,
    ⟨none, .st 10 (.t 17) (.t 57), none, 1⟩,
    ⟨(some 18), .mv (.t 58), none, 1⟩,
    ⟨(some 19), .mv (.t 59), none, 1⟩] 1 none) (.seq (.reg [
    ⟨(some 61), .mv (.t 13), none, 0⟩,
    ⟨(some 62), .mv (.t 5), none, 0⟩,
    ⟨(some 63), .cvi .i64 (.t 62), none, 0⟩,
    ⟨(some 64), .mv (.t 13), none, 0⟩,
    ⟨(some 65), .len false (.t 64), none, 0⟩,
    ⟨(some 66), .mnx true (.t 65) (.c (.p (.o (.int .i64 1)))), none, 0⟩,
    ⟨(some 67), .bin .rem (.t 63) (.t 66), none, 0⟩,
    ⟨(some 68), .call 35 [(.t 61), (.t 67)] 0, none, 0⟩,
    ⟨(some 69), .call 29 [(.t 68)] 0, none, 0⟩,
    ⟨(some 60), .mv (.t 69), none, 0⟩,
    ⟨(some 70), .ext 0 (.t 60), none, 0⟩,
    ⟨(some 71), .ext 1 (.t 60), none, 0⟩,
    ⟨(some 72), .ext 2 (.t 60), none, 0⟩,
    ⟨(some 20), .new [.int .u8 0, .int .u16 0, .bool false, .bool false, .int .i64 0, .int .u8 0, .int .u8 0, .int .u32 0, .int .u32 0, .str ⟨#[]⟩], none, 0⟩,
    ⟨none, .st 10 (.t 20) (.t 70), none, 1⟩,
    ⟨(some 21), .mv (.t 71), none, 1⟩,
    ⟨(some 22), .mv (.t 72), none, 1⟩] 1 none) (.seq (.reg [
    ⟨(some 73), .ld (some 10) (.t 17), none, 0⟩,
    ⟨(some 74), .ld (some 10) (.t 6), none, 0⟩,
    ⟨(some 75), .eq (.flat [.int .u8, .int .u16, .bool, .bool, .int .i64, .int .u8, .int .u8, .int .u32, .int .u32, .str]) false (.t 73) (.t 74), none, 0⟩,
    ⟨(some 76), .mv (.t 75), none, 0⟩,
    ⟨(some 77), .mv (.t 18), (some (76, true)), 0⟩,
    ⟨(some 78), .mv (.t 2), (some (76, true)), 0⟩,
    ⟨(some 79), .bin .eql (.t 77) (.t 78), (some (76, true)), 0⟩,
    ⟨(some 80), .pick (.t 76) (.t 79) (.c (.p (.o (.bool false)))), none, 0⟩,
    ⟨(some 81), .mv (.t 80), none, 0⟩,
    ⟨(some 82), .mv (.t 19), (some (81, true)), 0⟩,
    ⟨(some 83), .bin .eql (.t 82) (.c (.p (.o (.int .i64 0)))), (some (81, true)), 0⟩,
    ⟨(some 84), .pick (.t 81) (.t 83) (.c (.p (.o (.bool false)))), none, 0⟩,
    ⟨(some 85), .mv (.t 84), none, 0⟩,
    ⟨(some 86), .mv (.t 22), (some (85, true)), 0⟩,
    ⟨(some 87), .bin .eql (.t 86) (.c (.p (.o (.int .i64 10)))), (some (85, true)), 0⟩,
    ⟨(some 88), .pick (.t 85) (.t 87) (.c (.p (.o (.bool false)))), none, 0⟩,
    ⟨(some 89), .mv (.t 88), none, 0⟩,
    ⟨(some 90), .mv (.t 16), (some (89, true)), 0⟩,
    ⟨(some 91), .bin .neq (.t 90) (.c (.p (.o (.int .i64 0)))), (some (89, true)), 0⟩,
    ⟨(some 92), .mv (.t 91), (some (89, true)), 0⟩,
    ⟨(some 93), .mv (.t 13), (some (92, false)), 0⟩,
    ⟨(some 94), .mv (.t 15), (some (92, false)), 0⟩,
    ⟨(some 95), .bin .eql (.t 93) (.t 94), (some (92, false)), 0⟩,
    ⟨(some 96), .ld (some 10) (.t 6), (some (92, false)), 0⟩,
    ⟨(some 97), .ld (some 10) (.t 7), (some (92, false)), 0⟩,
    ⟨(some 98), .eq (.flat [.int .u8, .int .u16, .bool, .bool, .int .i64, .int .u8, .int .u8, .int .u32, .int .u32, .str]) false (.t 96) (.t 97), (some (92, false)), 0⟩,
    ⟨(some 99), .mv (.t 98), (some (92, false)), 0⟩,
    ⟨(some 100), .mv (.t 2), (some (99, true)), 0⟩,
    ⟨(some 101), .mv (.t 3), (some (99, true)), 0⟩,
    ⟨(some 102), .bin .eql (.t 100) (.t 101), (some (99, true)), 0⟩,
    ⟨(some 103), .pick (.t 99) (.t 102) (.c (.p (.o (.bool false)))), (some (92, false)), 0⟩,
    ⟨(some 104), .eq .bool false (.t 95) (.t 103), (some (92, false)), 0⟩,
    ⟨(some 105), .pick (.t 92) (.c (.p (.o (.bool true)))) (.t 104), (some (89, true)), 0⟩,
    ⟨(some 106), .pick (.t 89) (.t 105) (.c (.p (.o (.bool false)))), none, 0⟩,
    ⟨(some 107), .mv (.t 106), none, 0⟩,
    ⟨(some 108), .call 27 [] 0, (some (107, true)), 0⟩,
    ⟨(some 109), .pick (.t 107) (.t 108) (.c (.p (.o (.bool false)))), none, 0⟩,
    ⟨(some 12), .mv (.t 109), none, 0⟩] 0 none) .ret)))))))),
  [.tmp 12], 110, [0, 1, 2, 3, 4, 5, 6, 7, 12, 13, 14, 15, 16, 17, 18, 19, 22]⟩
theorem ok_law10_IpBack : cFn Try.prog eqsT newsT vf_law10_IpBack.keep Try.f10 = some vf_law10_IpBack := by kernel_rfl
theorem bAt_cut (s : ByteArray) (k i : Nat) (h : i < k) : bAt (s.extract 0 k) i = bAt s i := by rw [bAt_bt, bAt_bt, Sp.bt_extract _ _ _ _ (show 0 + i < k by omega), Nat.zero_add]
theorem n2_cut (s : ByteArray) (k : Nat) (hk : k ≤ s.size) (p : Int) (h0 : 0 ≤ p) (h : p + 2 ≤ k) : n2 (s.extract 0 k) p = n2 s p := by
  rw [n2_b _ _ h0 (by rw [ByteArray.size_extract]; omega), n2_b _ _ h0 (by omega), bAt_cut _ _ _ (by omega), bAt_cut _ _ _ (by omega)]
/-- What is cut off a packet is told. -/
theorem short10 {s : ByteArray} {tos id : Int} {hold more : Bool} {at_ ttl proto fr tt : Int} {o : ByteArray} {r : ByteArray} {dl : Int} (h : Says10 s tos id hold more at_ ttl proto fr tt o r dl) (hm : may10 at_ o = true) (hdl : 0 ≤ dl) (k : Nat) (hk : k < s.size) (hs : (s.size : Int) ≤ 20 + o.size + dl) : dec10e (s.extract 0 k) = 10 := by
  have hmb := may10_bd hm
  have hz : (s.extract 0 k).size = k := by rw [ByteArray.size_extract]; omega
  unfold dec10e
  rw [hz]
  by_cases c : k < 20
  · rw [if_pos (by omega)]
  have b0 : bAt (s.extract 0 k) (Int.toNat 0) = bAt s (Int.toNat 0) := bAt_cut _ _ _ (show 0 < k by omega)
  have e1 : hl10 (s.extract 0 k) = 20 + o.size := by unfold hl10; rw [b0, h.b0]; omega
  have e2 : n2 (s.extract 0 k) 2 = 20 + o.size + dl := by rw [n2_cut _ _ (by omega) _ (by omega) (by omega), h.all]
  rw [if_neg (by omega), if_neg (by rw [b0, h.b0]; omega), e1, e2, if_neg (by omega)]
  by_cases c2 : (k : Int) < 20 + o.size
  · rw [if_pos c2]
  · rw [if_neg c2, if_neg (by omega), if_pos (by omega)]
set_option maxHeartbeats 4000000 in
theorem ipback_no (tos id : Int) (hold more : Bool) (at_ ttl proto fr tt : Int) (o : ByteArray) (tos1 id1 : Int) (hold1 more1 : Bool) (at_1 ttl1 proto1 fr1 tt1 : Int) (o1 : ByteArray) (d d1 b : ByteArray) (k : Int) (ho : (o.size : Int) ≤ 256) (hd : (d.size : Int) ≤ 131072) (ho1 : (o1.size : Int) ≤ 256) (hd1 : (d1.size : Int) ≤ 131072) (hb : (b.size : Int) ≤ 4096) (S T : ByteArray) (e e1 : Int) (he : ¬ e = 0) (E : Det Try.prog 26 [.a (hdr tos id hold more at_ ttl proto fr tt o), .o (.str d)] [] (.t [.o (.str S), .o (.int .i64 e)]) []) (E1 : Det Try.prog 26 [.a (hdr tos1 id1 hold1 more1 at_1 ttl1 proto1 fr1 tt1 o1), .o (.str d1)] [] (.t [.o (.str T), .o (.int .i64 e1)]) []) : Can Try.prog 10 [.a (hdr tos id hold more at_ ttl proto fr tt o), .a (hdr tos1 id1 hold1 more1 at_1 ttl1 proto1 fr1 tt1 o1), .o (.str d), .o (.str d1), .o (.str b), .o (.int .u16 k)] [] (fun v _ => v = vB true) := by
  refine can_of_W known mix Try.func10 (by kernel_rfl) ok_law10_IpBack (Nat.le_of_ble_eq_true rfl) ?_
  repeat' ((conv => whnf); first
    | ((with_reducible refine Look.mk ?_); refine ⟨_, rfl, ?_⟩)
    | ((with_reducible refine LookN.zeros ?_))
    | ((with_reducible refine LookN.bytes ?_ ?_); (simp; done))
    | ((with_reducible refine BytesW.bytes ?_))
    | ((with_reducible refine Look.byte ?_ ?_); omega)
    | ((with_reducible refine Look.setb ?_ ?_ ?_); exact bv8_bd _; omega)
    | ((with_reducible refine LookN.setb ?_ ?_ ?_); exact bv8_bd _; omega)
    | ((with_reducible refine LookN.mk ?_); refine ⟨_, rfl, ?_⟩)
    | ((with_reducible refine Need.mk ?_ ?_); first | ((with_reducible refine needB ?_); kernel_rfl) | exact rfl | trivial | omega | exact Nat.le_of_ble_eq_true rfl | (exact ⟨rfl, by omega⟩) | (intro h; first | rfl | cases h) | (simp only [lenS_text, lenS_setN, lenS_zeros]; omega) | (simp only [ByteArray.size_append, size_lit, List.size_toArray, List.length_cons, List.length_nil, Sp.ofB_size, ByteArray.size_extract]; omega))
    | ((with_reducible refine BytesW.mk ?_); refine ⟨_, rfl, ?_⟩)
    | (with_reducible refine CallW.det (E) ?_)
    | (with_reducible refine CallW.det (E1) ?_)
    | (with_reducible refine CallW.det (alive10_det) ?_)
    | (with_reducible refine CallW.can (can_of_W known mix Try.func25 (by kernel_rfl) ok_law10_Long (Nat.le_of_ble_eq_true rfl) ?_) (fun _ _ h => h))
    | (with_reducible refine CallW.can (can_of_W known mix Try.func35 (by kernel_rfl) ok_law10_cut (Nat.le_of_ble_eq_true rfl) ?_) (fun _ _ h => h))
    | ((with_reducible refine Test.tmodEqT ?_ ?_ ?_); omega; focus omega)
    | ((with_reducible refine Test.tmodEqF ?_ ?_ ?_); omega; focus omega)
    | ((with_reducible refine Test.tmodNeT ?_ ?_ ?_); omega; focus omega)
    | ((with_reducible refine Test.tmodNeF ?_ ?_ ?_); omega; focus omega)
    | ((with_reducible refine Test.tmodEq ?_ (fun h => ?_) (fun h => ?_)); omega)
    | ((with_reducible refine Test.tmodNe ?_ (fun h => ?_) (fun h => ?_)); omega)
    | ((with_reducible refine Test.notT ?_ ?_); focus assumption)
    | ((with_reducible refine Test.notF ?_ ?_); focus assumption)
    | (with_reducible refine Test.notIe (fun h => ?_) (fun h => ?_))
    | (with_reducible refine Test.notD (fun h => ?_) (fun h => ?_))
    | ((with_reducible refine Test.empty (fun h => ?_) (fun h => ?_)))
    | (with_reducible refine Test.tt ?_)
    | (with_reducible refine Test.ff ?_)
    | ((with_reducible refine Test.dt ?_ ?_); omega)
    | ((with_reducible refine Test.df ?_ ?_); omega)
    | (with_reducible refine Test.d (fun h => ?_) (fun h => ?_))
    | ((with_reducible refine Test.ieT ?_ ?_); omega)
    | ((with_reducible refine Test.ieF ?_ ?_); omega)
    | ((with_reducible refine Test.neT ?_ ?_); omega)
    | ((with_reducible refine Test.neF ?_ ?_); omega)
    | (with_reducible refine Test.ie (fun h => ?_) (fun h => ?_))
    | (with_reducible refine Test.ne (fun h => ?_) (fun h => ?_))
    | ((with_reducible refine Test.b ?_ ?_); (focus first | assumption | (simp [negB]; done) | exact rfl))
    | ((with_reducible refine Test.nb ?_ ?_); (focus first | assumption | (simp [negB]; done) | exact rfl))
    | (with_reducible refine Test.notS (fun h => ?_) (fun h => ?_))
    | (with_reducible refine Test.mk (fun h => ?_) (fun h => ?_))
    | ((with_reducible refine Arith.tdiv ?_ ?_); omega)
    | (with_reducible refine Arith.bv8 ?_)
    | (with_reducible refine Arith.bv16 ?_)
    | (with_reducible refine Arith.bv32 ?_)
    | (with_reducible refine Arith.bv64 ?_)
    | ((with_reducible refine Arith.i64 ?_ ?_); omega)
    | ((with_reducible refine Arith.u64 ?_ ?_); omega)
    | ((with_reducible refine Arith.u32 ?_ ?_); omega)
    | ((with_reducible refine Arith.u16 ?_ ?_); omega)
    | ((with_reducible refine Arith.u8 ?_ ?_); omega)
    | ((with_reducible refine Arith.i32 ?_ ?_); omega)
    | ((with_reducible refine Arith.i64 ?_ ?_); simp (discharger := omega) only [Int.tdiv_eq_ediv_of_nonneg, shr_u8_4, shl_u8_4, shr_u16_4, shl_u16_4, shr_u16_8, shl_u16_8, shr_u32_4, shl_u32_4, shr_u32_8, shl_u32_8, shr_u32_16, shl_u32_16, shr_u32_24, shl_u32_24, shr_u64_4, shl_u64_4, shr_u64_8, shl_u64_8, shr_u64_16, shl_u64_16, shr_u64_24, shl_u64_24, shr_u64_40, shl_u64_40, shr_i64_4, shl_i64_4, shr_i64_8, shl_i64_8, shr_i64_16, shl_i64_16, shr_i64_24, shl_i64_24, shr_i64_40, shl_i64_40]; omega)
    | ((with_reducible refine Arith.u64 ?_ ?_); simp (discharger := omega) only [Int.tdiv_eq_ediv_of_nonneg, shr_u8_4, shl_u8_4, shr_u16_4, shl_u16_4, shr_u16_8, shl_u16_8, shr_u32_4, shl_u32_4, shr_u32_8, shl_u32_8, shr_u32_16, shl_u32_16, shr_u32_24, shl_u32_24, shr_u64_4, shl_u64_4, shr_u64_8, shl_u64_8, shr_u64_16, shl_u64_16, shr_u64_24, shl_u64_24, shr_u64_40, shl_u64_40, shr_i64_4, shl_i64_4, shr_i64_8, shl_i64_8, shr_i64_16, shl_i64_16, shr_i64_24, shl_i64_24, shr_i64_40, shl_i64_40]; omega)
    | ((with_reducible refine Arith.u32 ?_ ?_); simp (discharger := omega) only [Int.tdiv_eq_ediv_of_nonneg, shr_u8_4, shl_u8_4, shr_u16_4, shl_u16_4, shr_u16_8, shl_u16_8, shr_u32_4, shl_u32_4, shr_u32_8, shl_u32_8, shr_u32_16, shl_u32_16, shr_u32_24, shl_u32_24, shr_u64_4, shl_u64_4, shr_u64_8, shl_u64_8, shr_u64_16, shl_u64_16, shr_u64_24, shl_u64_24, shr_u64_40, shl_u64_40, shr_i64_4, shl_i64_4, shr_i64_8, shl_i64_8, shr_i64_16, shl_i64_16, shr_i64_24, shl_i64_24, shr_i64_40, shl_i64_40]; omega)
    | ((with_reducible refine Arith.u16 ?_ ?_); simp (discharger := omega) only [Int.tdiv_eq_ediv_of_nonneg, shr_u8_4, shl_u8_4, shr_u16_4, shl_u16_4, shr_u16_8, shl_u16_8, shr_u32_4, shl_u32_4, shr_u32_8, shl_u32_8, shr_u32_16, shl_u32_16, shr_u32_24, shl_u32_24, shr_u64_4, shl_u64_4, shr_u64_8, shl_u64_8, shr_u64_16, shl_u64_16, shr_u64_24, shl_u64_24, shr_u64_40, shl_u64_40, shr_i64_4, shl_i64_4, shr_i64_8, shl_i64_8, shr_i64_16, shl_i64_16, shr_i64_24, shl_i64_24, shr_i64_40, shl_i64_40]; omega)
    | ((with_reducible refine Arith.u8 ?_ ?_); simp (discharger := omega) only [Int.tdiv_eq_ediv_of_nonneg, shr_u8_4, shl_u8_4, shr_u16_4, shl_u16_4, shr_u16_8, shl_u16_8, shr_u32_4, shl_u32_4, shr_u32_8, shl_u32_8, shr_u32_16, shl_u32_16, shr_u32_24, shl_u32_24, shr_u64_4, shl_u64_4, shr_u64_8, shl_u64_8, shr_u64_16, shl_u64_16, shr_u64_24, shl_u64_24, shr_u64_40, shl_u64_40, shr_i64_4, shl_i64_4, shr_i64_8, shl_i64_8, shr_i64_16, shl_i64_16, shr_i64_24, shl_i64_24, shr_i64_40, shl_i64_40]; omega)
    | (with_reducible refine Arith.mk ?_)
    | (with_reducible refine Ends.mk ?_))
  all_goals rfl
set_option maxHeartbeats 4000000 in
theorem ipback_yes (tos id : Int) (hold more : Bool) (at_ ttl proto fr tt : Int) (o : ByteArray) (tos1 id1 : Int) (hold1 more1 : Bool) (at_1 ttl1 proto1 fr1 tt1 : Int) (o1 : ByteArray) (d d1 b : ByteArray) (k : Int) (ho : (o.size : Int) ≤ 256) (hd : (d.size : Int) ≤ 131072) (ho1 : (o1.size : Int) ≤ 256) (hd1 : (d1.size : Int) ≤ 131072) (hb : (b.size : Int) ≤ 4096) (S T : ByteArray) (e1 : Int) (hS : 20 ≤ S.size) (hS2 : S.size ≤ 65535) (hk : 0 ≤ k ∧ k ≤ 65535) (E : Det Try.prog 26 [.a (hdr tos id hold more at_ ttl proto fr tt o), .o (.str d)] [] (.t [.o (.str S), .o (.int .i64 0)]) []) (E1 : Det Try.prog 26 [.a (hdr tos1 id1 hold1 more1 at_1 ttl1 proto1 fr1 tt1 o1), .o (.str d1)] [] (.t [.o (.str T), .o (.int .i64 e1)]) []) (D : Det Try.prog 29 [.o (.str (S ++ b))] [] (.t [.a (hdr tos id hold more at_ ttl proto fr tt o), .o (.str d), .o (.int .i64 0)]) []) (C : ∀ n : Nat, n < S.size → ∃ tos2 id2 hold2 more2 at_2 ttl2 proto2 fr2 tt2 o2 d2, Det Try.prog 29 [.o (.str (S.extract (Int.toNat 0) n))] [] (.t [.a (hdr tos2 id2 hold2 more2 at_2 ttl2 proto2 fr2 tt2 o2), .o (.str d2), .o (.int .i64 10)]) []) (hqt : e1 = 0 → negB false ((tos == tos1) && ((id == id1) && ((hold == hold1) && ((more == more1) && ((at_ == at_1) && ((ttl == ttl1) && ((proto == proto1) && ((fr == fr1) && ((tt == tt1) && ((o.toList == o1.toList) && true)))))))))) = true → (S.toList == T.toList) = (d.toList == d1.toList)) (hqf : e1 = 0 → negB false ((tos == tos1) && ((id == id1) && ((hold == hold1) && ((more == more1) && ((at_ == at_1) && ((ttl == ttl1) && ((proto == proto1) && ((fr == fr1) && ((tt == tt1) && ((o.toList == o1.toList) && true)))))))))) = false → (S.toList == T.toList) = false) : Can Try.prog 10 [.a (hdr tos id hold more at_ ttl proto fr tt o), .a (hdr tos1 id1 hold1 more1 at_1 ttl1 proto1 fr1 tt1 o1), .o (.str d), .o (.str d1), .o (.str b), .o (.int .u16 k)] [] (fun v _ => v = vB true) := by
  have hm1 : 0 ≤ k.tmod (max (S.size : Int) 1) ∧ k.tmod (max (S.size : Int) 1) < max (S.size : Int) 1 := ⟨Int.tmod_nonneg _ hk.1, Int.tmod_lt_of_pos _ (show (0 : Int) < max (S.size : Int) 1 by omega)⟩
  obtain ⟨tos2, id2, hold2, more2, at_2, ttl2, proto2, fr2, tt2, o2, d2, C2⟩ := C (k.tmod (max (S.size : Int) 1)).toNat (by omega)
  refine can_of_W known mix Try.func10 (by kernel_rfl) ok_law10_IpBack (Nat.le_of_ble_eq_true rfl) ?_
  repeat' ((conv => whnf); first
    | ((with_reducible refine Look.mk ?_); refine ⟨_, rfl, ?_⟩)
    | ((with_reducible refine LookN.zeros ?_))
    | ((with_reducible refine LookN.bytes ?_ ?_); (simp; done))
    | ((with_reducible refine BytesW.bytes ?_))
    | ((with_reducible refine Look.byte ?_ ?_); omega)
    | ((with_reducible refine Look.setb ?_ ?_ ?_); exact bv8_bd _; omega)
    | ((with_reducible refine LookN.setb ?_ ?_ ?_); exact bv8_bd _; omega)
    | ((with_reducible refine LookN.mk ?_); refine ⟨_, rfl, ?_⟩)
    | ((with_reducible refine Need.mk ?_ ?_); first | ((with_reducible refine needB ?_); kernel_rfl) | exact rfl | trivial | omega | exact Nat.le_of_ble_eq_true rfl | (exact ⟨rfl, by omega⟩) | (intro h; first | rfl | cases h) | (simp only [lenS_text, lenS_setN, lenS_zeros]; omega) | (simp only [ByteArray.size_append, size_lit, List.size_toArray, List.length_cons, List.length_nil, Sp.ofB_size, ByteArray.size_extract]; omega))
    | ((with_reducible refine BytesW.mk ?_); refine ⟨_, rfl, ?_⟩)
    | (with_reducible refine CallW.det (E) ?_)
    | (with_reducible refine CallW.det (E1) ?_)
    | (with_reducible refine CallW.det (D) ?_)
    | (with_reducible refine CallW.det (C2) ?_)
    | (with_reducible refine CallW.det (alive10_det) ?_)
    | (with_reducible refine CallW.can (can_of_W known mix Try.func25 (by kernel_rfl) ok_law10_Long (Nat.le_of_ble_eq_true rfl) ?_) (fun _ _ h => h))
    | (with_reducible refine CallW.can (can_of_W known mix Try.func35 (by kernel_rfl) ok_law10_cut (Nat.le_of_ble_eq_true rfl) ?_) (fun _ _ h => h))
    | ((with_reducible refine Test.tmodEqT ?_ ?_ ?_); omega; focus omega)
    | ((with_reducible refine Test.tmodEqF ?_ ?_ ?_); omega; focus omega)
    | ((with_reducible refine Test.tmodNeT ?_ ?_ ?_); omega; focus omega)
    | ((with_reducible refine Test.tmodNeF ?_ ?_ ?_); omega; focus omega)
    | ((with_reducible refine Test.tmodEq ?_ (fun h => ?_) (fun h => ?_)); omega)
    | ((with_reducible refine Test.tmodNe ?_ (fun h => ?_) (fun h => ?_)); omega)
    | ((with_reducible refine Test.notT ?_ ?_); focus assumption)
    | ((with_reducible refine Test.notF ?_ ?_); focus assumption)
    | (with_reducible refine Test.notIe (fun h => ?_) (fun h => ?_))
    | (with_reducible refine Test.notD (fun h => ?_) (fun h => ?_))
    | ((with_reducible refine Test.empty (fun h => ?_) (fun h => ?_)))
    | (with_reducible refine Test.tt ?_)
    | (with_reducible refine Test.ff ?_)
    | ((with_reducible refine Test.dt ?_ ?_); omega)
    | ((with_reducible refine Test.df ?_ ?_); omega)
    | (with_reducible refine Test.d (fun h => ?_) (fun h => ?_))
    | ((with_reducible refine Test.ieT ?_ ?_); omega)
    | ((with_reducible refine Test.ieF ?_ ?_); omega)
    | ((with_reducible refine Test.neT ?_ ?_); omega)
    | ((with_reducible refine Test.neF ?_ ?_); omega)
    | (with_reducible refine Test.ie (fun h => ?_) (fun h => ?_))
    | (with_reducible refine Test.ne (fun h => ?_) (fun h => ?_))
    | ((with_reducible refine Test.b ?_ ?_); (focus first | assumption | (simp [negB]; done) | exact rfl | (rw [hqt (by assumption) (by assumption)]; simp [negB]; done) | (rw [hqf (by assumption) (by assumption)]; simp [negB]; done)))
    | ((with_reducible refine Test.nb ?_ ?_); (focus first | assumption | (simp [negB]; done) | exact rfl | (rw [hqt (by assumption) (by assumption)]; simp [negB]; done) | (rw [hqf (by assumption) (by assumption)]; simp [negB]; done)))
    | (with_reducible refine Test.notS (fun h => ?_) (fun h => ?_))
    | (with_reducible refine Test.mk (fun h => ?_) (fun h => ?_))
    | ((with_reducible refine Arith.tdiv ?_ ?_); omega)
    | (with_reducible refine Arith.bv8 ?_)
    | (with_reducible refine Arith.bv16 ?_)
    | (with_reducible refine Arith.bv32 ?_)
    | (with_reducible refine Arith.bv64 ?_)
    | ((with_reducible refine Arith.i64 ?_ ?_); omega)
    | ((with_reducible refine Arith.u64 ?_ ?_); omega)
    | ((with_reducible refine Arith.u32 ?_ ?_); omega)
    | ((with_reducible refine Arith.u16 ?_ ?_); omega)
    | ((with_reducible refine Arith.u8 ?_ ?_); omega)
    | ((with_reducible refine Arith.i32 ?_ ?_); omega)
    | ((with_reducible refine Arith.i64 ?_ ?_); simp (discharger := omega) only [Int.tdiv_eq_ediv_of_nonneg, shr_u8_4, shl_u8_4, shr_u16_4, shl_u16_4, shr_u16_8, shl_u16_8, shr_u32_4, shl_u32_4, shr_u32_8, shl_u32_8, shr_u32_16, shl_u32_16, shr_u32_24, shl_u32_24, shr_u64_4, shl_u64_4, shr_u64_8, shl_u64_8, shr_u64_16, shl_u64_16, shr_u64_24, shl_u64_24, shr_u64_40, shl_u64_40, shr_i64_4, shl_i64_4, shr_i64_8, shl_i64_8, shr_i64_16, shl_i64_16, shr_i64_24, shl_i64_24, shr_i64_40, shl_i64_40]; omega)
    | ((with_reducible refine Arith.u64 ?_ ?_); simp (discharger := omega) only [Int.tdiv_eq_ediv_of_nonneg, shr_u8_4, shl_u8_4, shr_u16_4, shl_u16_4, shr_u16_8, shl_u16_8, shr_u32_4, shl_u32_4, shr_u32_8, shl_u32_8, shr_u32_16, shl_u32_16, shr_u32_24, shl_u32_24, shr_u64_4, shl_u64_4, shr_u64_8, shl_u64_8, shr_u64_16, shl_u64_16, shr_u64_24, shl_u64_24, shr_u64_40, shl_u64_40, shr_i64_4, shl_i64_4, shr_i64_8, shl_i64_8, shr_i64_16, shl_i64_16, shr_i64_24, shl_i64_24, shr_i64_40, shl_i64_40]; omega)
    | ((with_reducible refine Arith.u32 ?_ ?_); simp (discharger := omega) only [Int.tdiv_eq_ediv_of_nonneg, shr_u8_4, shl_u8_4, shr_u16_4, shl_u16_4, shr_u16_8, shl_u16_8, shr_u32_4, shl_u32_4, shr_u32_8, shl_u32_8, shr_u32_16, shl_u32_16, shr_u32_24, shl_u32_24, shr_u64_4, shl_u64_4, shr_u64_8, shl_u64_8, shr_u64_16, shl_u64_16, shr_u64_24, shl_u64_24, shr_u64_40, shl_u64_40, shr_i64_4, shl_i64_4, shr_i64_8, shl_i64_8, shr_i64_16, shl_i64_16, shr_i64_24, shl_i64_24, shr_i64_40, shl_i64_40]; omega)
    | ((with_reducible refine Arith.u16 ?_ ?_); simp (discharger := omega) only [Int.tdiv_eq_ediv_of_nonneg, shr_u8_4, shl_u8_4, shr_u16_4, shl_u16_4, shr_u16_8, shl_u16_8, shr_u32_4, shl_u32_4, shr_u32_8, shl_u32_8, shr_u32_16, shl_u32_16, shr_u32_24, shl_u32_24, shr_u64_4, shl_u64_4, shr_u64_8, shl_u64_8, shr_u64_16, shl_u64_16, shr_u64_24, shl_u64_24, shr_u64_40, shl_u64_40, shr_i64_4, shl_i64_4, shr_i64_8, shl_i64_8, shr_i64_16, shl_i64_16, shr_i64_24, shl_i64_24, shr_i64_40, shl_i64_40]; omega)
    | ((with_reducible refine Arith.u8 ?_ ?_); simp (discharger := omega) only [Int.tdiv_eq_ediv_of_nonneg, shr_u8_4, shl_u8_4, shr_u16_4, shl_u16_4, shr_u16_8, shl_u16_8, shr_u32_4, shl_u32_4, shr_u32_8, shl_u32_8, shr_u32_16, shl_u32_16, shr_u32_24, shl_u32_24, shr_u64_4, shl_u64_4, shr_u64_8, shl_u64_8, shr_u64_16, shl_u64_16, shr_u64_24, shl_u64_24, shr_u64_40, shl_u64_40, shr_i64_4, shl_i64_4, shr_i64_8, shl_i64_8, shr_i64_16, shl_i64_16, shr_i64_24, shl_i64_24, shr_i64_40, shl_i64_40]; omega)
    | (with_reducible refine Arith.mk ?_)
    | (with_reducible refine Ends.mk ?_))
  all_goals rfl
set_option maxHeartbeats 1000000 in
theorem ipback_far (tos id : Int) (hold more : Bool) (at_ ttl proto fr tt : Int) (o : ByteArray) (tos1 id1 : Int) (hold1 more1 : Bool) (at_1 ttl1 proto1 fr1 tt1 : Int) (o1 : ByteArray) (d d1 b : ByteArray) (k : Int) (h : ¬ ((o.size : Int) ≤ 256 ∧ (d.size : Int) ≤ 131072 ∧ (o1.size : Int) ≤ 256 ∧ (d1.size : Int) ≤ 131072 ∧ (b.size : Int) ≤ 4096)) : Can Try.prog 10 [.a (hdr tos id hold more at_ ttl proto fr tt o), .a (hdr tos1 id1 hold1 more1 at_1 ttl1 proto1 fr1 tt1 o1), .o (.str d), .o (.str d1), .o (.str b), .o (.int .u16 k)] [] (fun v _ => v = vB true) := by
  by_cases c0 : (o.size : Int) ≤ 256
  · skip
    by_cases c1 : (d.size : Int) ≤ 131072
    · skip
      by_cases c2 : (o1.size : Int) ≤ 256
      · skip
        by_cases c3 : (d1.size : Int) ≤ 131072
        · skip
          refine can_of_W known mix Try.func10 (by kernel_rfl) ok_law10_IpBack (Nat.le_of_ble_eq_true rfl) ?_
          repeat' ((conv => whnf); first
    | ((with_reducible refine Look.mk ?_); refine ⟨_, rfl, ?_⟩)
    | ((with_reducible refine LookN.zeros ?_))
    | ((with_reducible refine LookN.bytes ?_ ?_); (simp; done))
    | ((with_reducible refine BytesW.bytes ?_))
    | ((with_reducible refine Look.byte ?_ ?_); omega)
    | ((with_reducible refine Look.setb ?_ ?_ ?_); exact bv8_bd _; omega)
    | ((with_reducible refine LookN.setb ?_ ?_ ?_); exact bv8_bd _; omega)
    | ((with_reducible refine LookN.mk ?_); refine ⟨_, rfl, ?_⟩)
    | ((with_reducible refine Need.mk ?_ ?_); first | ((with_reducible refine needB ?_); kernel_rfl) | exact rfl | trivial | omega | exact Nat.le_of_ble_eq_true rfl | (exact ⟨rfl, by omega⟩) | (intro h; first | rfl | cases h) | (simp only [lenS_text, lenS_setN, lenS_zeros]; omega) | (simp only [ByteArray.size_append, size_lit, List.size_toArray, List.length_cons, List.length_nil, Sp.ofB_size, ByteArray.size_extract]; omega))
    | ((with_reducible refine BytesW.mk ?_); refine ⟨_, rfl, ?_⟩)
    | (with_reducible refine CallW.det (alive10_det) ?_)
    | (with_reducible refine CallW.can (can_of_W known mix Try.func25 (by kernel_rfl) ok_law10_Long (Nat.le_of_ble_eq_true rfl) ?_) (fun _ _ h => h))
    | (with_reducible refine CallW.can (can_of_W known mix Try.func35 (by kernel_rfl) ok_law10_cut (Nat.le_of_ble_eq_true rfl) ?_) (fun _ _ h => h))
    | ((with_reducible refine Test.tmodEqT ?_ ?_ ?_); omega; focus omega)
    | ((with_reducible refine Test.tmodEqF ?_ ?_ ?_); omega; focus omega)
    | ((with_reducible refine Test.tmodNeT ?_ ?_ ?_); omega; focus omega)
    | ((with_reducible refine Test.tmodNeF ?_ ?_ ?_); omega; focus omega)
    | ((with_reducible refine Test.tmodEq ?_ (fun h => ?_) (fun h => ?_)); omega)
    | ((with_reducible refine Test.tmodNe ?_ (fun h => ?_) (fun h => ?_)); omega)
    | ((with_reducible refine Test.notT ?_ ?_); focus assumption)
    | ((with_reducible refine Test.notF ?_ ?_); focus assumption)
    | (with_reducible refine Test.notIe (fun h => ?_) (fun h => ?_))
    | (with_reducible refine Test.notD (fun h => ?_) (fun h => ?_))
    | ((with_reducible refine Test.empty (fun h => ?_) (fun h => ?_)))
    | (with_reducible refine Test.tt ?_)
    | (with_reducible refine Test.ff ?_)
    | ((with_reducible refine Test.dt ?_ ?_); omega)
    | ((with_reducible refine Test.df ?_ ?_); omega)
    | (with_reducible refine Test.d (fun h => ?_) (fun h => ?_))
    | ((with_reducible refine Test.ieT ?_ ?_); omega)
    | ((with_reducible refine Test.ieF ?_ ?_); omega)
    | ((with_reducible refine Test.neT ?_ ?_); omega)
    | ((with_reducible refine Test.neF ?_ ?_); omega)
    | (with_reducible refine Test.ie (fun h => ?_) (fun h => ?_))
    | (with_reducible refine Test.ne (fun h => ?_) (fun h => ?_))
    | ((with_reducible refine Test.b ?_ ?_); (focus first | assumption | (simp [negB]; done) | exact rfl))
    | ((with_reducible refine Test.nb ?_ ?_); (focus first | assumption | (simp [negB]; done) | exact rfl))
    | (with_reducible refine Test.notS (fun h => ?_) (fun h => ?_))
    | (with_reducible refine Test.mk (fun h => ?_) (fun h => ?_))
    | ((with_reducible refine Arith.tdiv ?_ ?_); omega)
    | (with_reducible refine Arith.bv8 ?_)
    | (with_reducible refine Arith.bv16 ?_)
    | (with_reducible refine Arith.bv32 ?_)
    | (with_reducible refine Arith.bv64 ?_)
    | ((with_reducible refine Arith.i64 ?_ ?_); omega)
    | ((with_reducible refine Arith.u64 ?_ ?_); omega)
    | ((with_reducible refine Arith.u32 ?_ ?_); omega)
    | ((with_reducible refine Arith.u16 ?_ ?_); omega)
    | ((with_reducible refine Arith.u8 ?_ ?_); omega)
    | ((with_reducible refine Arith.i32 ?_ ?_); omega)
    | ((with_reducible refine Arith.i64 ?_ ?_); simp (discharger := omega) only [Int.tdiv_eq_ediv_of_nonneg, shr_u8_4, shl_u8_4, shr_u16_4, shl_u16_4, shr_u16_8, shl_u16_8, shr_u32_4, shl_u32_4, shr_u32_8, shl_u32_8, shr_u32_16, shl_u32_16, shr_u32_24, shl_u32_24, shr_u64_4, shl_u64_4, shr_u64_8, shl_u64_8, shr_u64_16, shl_u64_16, shr_u64_24, shl_u64_24, shr_u64_40, shl_u64_40, shr_i64_4, shl_i64_4, shr_i64_8, shl_i64_8, shr_i64_16, shl_i64_16, shr_i64_24, shl_i64_24, shr_i64_40, shl_i64_40]; omega)
    | ((with_reducible refine Arith.u64 ?_ ?_); simp (discharger := omega) only [Int.tdiv_eq_ediv_of_nonneg, shr_u8_4, shl_u8_4, shr_u16_4, shl_u16_4, shr_u16_8, shl_u16_8, shr_u32_4, shl_u32_4, shr_u32_8, shl_u32_8, shr_u32_16, shl_u32_16, shr_u32_24, shl_u32_24, shr_u64_4, shl_u64_4, shr_u64_8, shl_u64_8, shr_u64_16, shl_u64_16, shr_u64_24, shl_u64_24, shr_u64_40, shl_u64_40, shr_i64_4, shl_i64_4, shr_i64_8, shl_i64_8, shr_i64_16, shl_i64_16, shr_i64_24, shl_i64_24, shr_i64_40, shl_i64_40]; omega)
    | ((with_reducible refine Arith.u32 ?_ ?_); simp (discharger := omega) only [Int.tdiv_eq_ediv_of_nonneg, shr_u8_4, shl_u8_4, shr_u16_4, shl_u16_4, shr_u16_8, shl_u16_8, shr_u32_4, shl_u32_4, shr_u32_8, shl_u32_8, shr_u32_16, shl_u32_16, shr_u32_24, shl_u32_24, shr_u64_4, shl_u64_4, shr_u64_8, shl_u64_8, shr_u64_16, shl_u64_16, shr_u64_24, shl_u64_24, shr_u64_40, shl_u64_40, shr_i64_4, shl_i64_4, shr_i64_8, shl_i64_8, shr_i64_16, shl_i64_16, shr_i64_24, shl_i64_24, shr_i64_40, shl_i64_40]; omega)
    | ((with_reducible refine Arith.u16 ?_ ?_); simp (discharger := omega) only [Int.tdiv_eq_ediv_of_nonneg, shr_u8_4, shl_u8_4, shr_u16_4, shl_u16_4, shr_u16_8, shl_u16_8, shr_u32_4, shl_u32_4, shr_u32_8, shl_u32_8, shr_u32_16, shl_u32_16, shr_u32_24, shl_u32_24, shr_u64_4, shl_u64_4, shr_u64_8, shl_u64_8, shr_u64_16, shl_u64_16, shr_u64_24, shl_u64_24, shr_u64_40, shl_u64_40, shr_i64_4, shl_i64_4, shr_i64_8, shl_i64_8, shr_i64_16, shl_i64_16, shr_i64_24, shl_i64_24, shr_i64_40, shl_i64_40]; omega)
    | ((with_reducible refine Arith.u8 ?_ ?_); simp (discharger := omega) only [Int.tdiv_eq_ediv_of_nonneg, shr_u8_4, shl_u8_4, shr_u16_4, shl_u16_4, shr_u16_8, shl_u16_8, shr_u32_4, shl_u32_4, shr_u32_8, shl_u32_8, shr_u32_16, shl_u32_16, shr_u32_24, shl_u32_24, shr_u64_4, shl_u64_4, shr_u64_8, shl_u64_8, shr_u64_16, shl_u64_16, shr_u64_24, shl_u64_24, shr_u64_40, shl_u64_40, shr_i64_4, shl_i64_4, shr_i64_8, shl_i64_8, shr_i64_16, shl_i64_16, shr_i64_24, shl_i64_24, shr_i64_40, shl_i64_40]; omega)
    | (with_reducible refine Arith.mk ?_)
    | (with_reducible refine Ends.mk ?_))
          all_goals rfl
        · refine can_of_W known mix Try.func10 (by kernel_rfl) ok_law10_IpBack (Nat.le_of_ble_eq_true rfl) ?_
          repeat' ((conv => whnf); first
    | ((with_reducible refine Look.mk ?_); refine ⟨_, rfl, ?_⟩)
    | ((with_reducible refine LookN.zeros ?_))
    | ((with_reducible refine LookN.bytes ?_ ?_); (simp; done))
    | ((with_reducible refine BytesW.bytes ?_))
    | ((with_reducible refine Look.byte ?_ ?_); omega)
    | ((with_reducible refine Look.setb ?_ ?_ ?_); exact bv8_bd _; omega)
    | ((with_reducible refine LookN.setb ?_ ?_ ?_); exact bv8_bd _; omega)
    | ((with_reducible refine LookN.mk ?_); refine ⟨_, rfl, ?_⟩)
    | ((with_reducible refine Need.mk ?_ ?_); first | ((with_reducible refine needB ?_); kernel_rfl) | exact rfl | trivial | omega | exact Nat.le_of_ble_eq_true rfl | (exact ⟨rfl, by omega⟩) | (intro h; first | rfl | cases h) | (simp only [lenS_text, lenS_setN, lenS_zeros]; omega) | (simp only [ByteArray.size_append, size_lit, List.size_toArray, List.length_cons, List.length_nil, Sp.ofB_size, ByteArray.size_extract]; omega))
    | ((with_reducible refine BytesW.mk ?_); refine ⟨_, rfl, ?_⟩)
    | (with_reducible refine CallW.det (alive10_det) ?_)
    | (with_reducible refine CallW.can (can_of_W known mix Try.func25 (by kernel_rfl) ok_law10_Long (Nat.le_of_ble_eq_true rfl) ?_) (fun _ _ h => h))
    | (with_reducible refine CallW.can (can_of_W known mix Try.func35 (by kernel_rfl) ok_law10_cut (Nat.le_of_ble_eq_true rfl) ?_) (fun _ _ h => h))
    | ((with_reducible refine Test.tmodEqT ?_ ?_ ?_); omega; focus omega)
    | ((with_reducible refine Test.tmodEqF ?_ ?_ ?_); omega; focus omega)
    | ((with_reducible refine Test.tmodNeT ?_ ?_ ?_); omega; focus omega)
    | ((with_reducible refine Test.tmodNeF ?_ ?_ ?_); omega; focus omega)
    | ((with_reducible refine Test.tmodEq ?_ (fun h => ?_) (fun h => ?_)); omega)
    | ((with_reducible refine Test.tmodNe ?_ (fun h => ?_) (fun h => ?_)); omega)
    | ((with_reducible refine Test.notT ?_ ?_); focus assumption)
    | ((with_reducible refine Test.notF ?_ ?_); focus assumption)
    | (with_reducible refine Test.notIe (fun h => ?_) (fun h => ?_))
    | (with_reducible refine Test.notD (fun h => ?_) (fun h => ?_))
    | ((with_reducible refine Test.empty (fun h => ?_) (fun h => ?_)))
    | (with_reducible refine Test.tt ?_)
    | (with_reducible refine Test.ff ?_)
    | ((with_reducible refine Test.dt ?_ ?_); omega)
    | ((with_reducible refine Test.df ?_ ?_); omega)
    | (with_reducible refine Test.d (fun h => ?_) (fun h => ?_))
    | ((with_reducible refine Test.ieT ?_ ?_); omega)
    | ((with_reducible refine Test.ieF ?_ ?_); omega)
    | ((with_reducible refine Test.neT ?_ ?_); omega)
    | ((with_reducible refine Test.neF ?_ ?_); omega)
    | (with_reducible refine Test.ie (fun h => ?_) (fun h => ?_))
    | (with_reducible refine Test.ne (fun h => ?_) (fun h => ?_))
    | ((with_reducible refine Test.b ?_ ?_); (focus first | assumption | (simp [negB]; done) | exact rfl))
    | ((with_reducible refine Test.nb ?_ ?_); (focus first | assumption | (simp [negB]; done) | exact rfl))
    | (with_reducible refine Test.notS (fun h => ?_) (fun h => ?_))
    | (with_reducible refine Test.mk (fun h => ?_) (fun h => ?_))
    | ((with_reducible refine Arith.tdiv ?_ ?_); omega)
    | (with_reducible refine Arith.bv8 ?_)
    | (with_reducible refine Arith.bv16 ?_)
    | (with_reducible refine Arith.bv32 ?_)
    | (with_reducible refine Arith.bv64 ?_)
    | ((with_reducible refine Arith.i64 ?_ ?_); omega)
    | ((with_reducible refine Arith.u64 ?_ ?_); omega)
    | ((with_reducible refine Arith.u32 ?_ ?_); omega)
    | ((with_reducible refine Arith.u16 ?_ ?_); omega)
    | ((with_reducible refine Arith.u8 ?_ ?_); omega)
    | ((with_reducible refine Arith.i32 ?_ ?_); omega)
    | ((with_reducible refine Arith.i64 ?_ ?_); simp (discharger := omega) only [Int.tdiv_eq_ediv_of_nonneg, shr_u8_4, shl_u8_4, shr_u16_4, shl_u16_4, shr_u16_8, shl_u16_8, shr_u32_4, shl_u32_4, shr_u32_8, shl_u32_8, shr_u32_16, shl_u32_16, shr_u32_24, shl_u32_24, shr_u64_4, shl_u64_4, shr_u64_8, shl_u64_8, shr_u64_16, shl_u64_16, shr_u64_24, shl_u64_24, shr_u64_40, shl_u64_40, shr_i64_4, shl_i64_4, shr_i64_8, shl_i64_8, shr_i64_16, shl_i64_16, shr_i64_24, shl_i64_24, shr_i64_40, shl_i64_40]; omega)
    | ((with_reducible refine Arith.u64 ?_ ?_); simp (discharger := omega) only [Int.tdiv_eq_ediv_of_nonneg, shr_u8_4, shl_u8_4, shr_u16_4, shl_u16_4, shr_u16_8, shl_u16_8, shr_u32_4, shl_u32_4, shr_u32_8, shl_u32_8, shr_u32_16, shl_u32_16, shr_u32_24, shl_u32_24, shr_u64_4, shl_u64_4, shr_u64_8, shl_u64_8, shr_u64_16, shl_u64_16, shr_u64_24, shl_u64_24, shr_u64_40, shl_u64_40, shr_i64_4, shl_i64_4, shr_i64_8, shl_i64_8, shr_i64_16, shl_i64_16, shr_i64_24, shl_i64_24, shr_i64_40, shl_i64_40]; omega)
    | ((with_reducible refine Arith.u32 ?_ ?_); simp (discharger := omega) only [Int.tdiv_eq_ediv_of_nonneg, shr_u8_4, shl_u8_4, shr_u16_4, shl_u16_4, shr_u16_8, shl_u16_8, shr_u32_4, shl_u32_4, shr_u32_8, shl_u32_8, shr_u32_16, shl_u32_16, shr_u32_24, shl_u32_24, shr_u64_4, shl_u64_4, shr_u64_8, shl_u64_8, shr_u64_16, shl_u64_16, shr_u64_24, shl_u64_24, shr_u64_40, shl_u64_40, shr_i64_4, shl_i64_4, shr_i64_8, shl_i64_8, shr_i64_16, shl_i64_16, shr_i64_24, shl_i64_24, shr_i64_40, shl_i64_40]; omega)
    | ((with_reducible refine Arith.u16 ?_ ?_); simp (discharger := omega) only [Int.tdiv_eq_ediv_of_nonneg, shr_u8_4, shl_u8_4, shr_u16_4, shl_u16_4, shr_u16_8, shl_u16_8, shr_u32_4, shl_u32_4, shr_u32_8, shl_u32_8, shr_u32_16, shl_u32_16, shr_u32_24, shl_u32_24, shr_u64_4, shl_u64_4, shr_u64_8, shl_u64_8, shr_u64_16, shl_u64_16, shr_u64_24, shl_u64_24, shr_u64_40, shl_u64_40, shr_i64_4, shl_i64_4, shr_i64_8, shl_i64_8, shr_i64_16, shl_i64_16, shr_i64_24, shl_i64_24, shr_i64_40, shl_i64_40]; omega)
    | ((with_reducible refine Arith.u8 ?_ ?_); simp (discharger := omega) only [Int.tdiv_eq_ediv_of_nonneg, shr_u8_4, shl_u8_4, shr_u16_4, shl_u16_4, shr_u16_8, shl_u16_8, shr_u32_4, shl_u32_4, shr_u32_8, shl_u32_8, shr_u32_16, shl_u32_16, shr_u32_24, shl_u32_24, shr_u64_4, shl_u64_4, shr_u64_8, shl_u64_8, shr_u64_16, shl_u64_16, shr_u64_24, shl_u64_24, shr_u64_40, shl_u64_40, shr_i64_4, shl_i64_4, shr_i64_8, shl_i64_8, shr_i64_16, shl_i64_16, shr_i64_24, shl_i64_24, shr_i64_40, shl_i64_40]; omega)
    | (with_reducible refine Arith.mk ?_)
    | (with_reducible refine Ends.mk ?_))
          all_goals rfl
      · refine can_of_W known mix Try.func10 (by kernel_rfl) ok_law10_IpBack (Nat.le_of_ble_eq_true rfl) ?_
        repeat' ((conv => whnf); first
    | ((with_reducible refine Look.mk ?_); refine ⟨_, rfl, ?_⟩)
    | ((with_reducible refine LookN.zeros ?_))
    | ((with_reducible refine LookN.bytes ?_ ?_); (simp; done))
    | ((with_reducible refine BytesW.bytes ?_))
    | ((with_reducible refine Look.byte ?_ ?_); omega)
    | ((with_reducible refine Look.setb ?_ ?_ ?_); exact bv8_bd _; omega)
    | ((with_reducible refine LookN.setb ?_ ?_ ?_); exact bv8_bd _; omega)
    | ((with_reducible refine LookN.mk ?_); refine ⟨_, rfl, ?_⟩)
    | ((with_reducible refine Need.mk ?_ ?_); first | ((with_reducible refine needB ?_); kernel_rfl) | exact rfl | trivial | omega | exact Nat.le_of_ble_eq_true rfl | (exact ⟨rfl, by omega⟩) | (intro h; first | rfl | cases h) | (simp only [lenS_text, lenS_setN, lenS_zeros]; omega) | (simp only [ByteArray.size_append, size_lit, List.size_toArray, List.length_cons, List.length_nil, Sp.ofB_size, ByteArray.size_extract]; omega))
    | ((with_reducible refine BytesW.mk ?_); refine ⟨_, rfl, ?_⟩)
    | (with_reducible refine CallW.det (alive10_det) ?_)
    | (with_reducible refine CallW.can (can_of_W known mix Try.func25 (by kernel_rfl) ok_law10_Long (Nat.le_of_ble_eq_true rfl) ?_) (fun _ _ h => h))
    | (with_reducible refine CallW.can (can_of_W known mix Try.func35 (by kernel_rfl) ok_law10_cut (Nat.le_of_ble_eq_true rfl) ?_) (fun _ _ h => h))
    | ((with_reducible refine Test.tmodEqT ?_ ?_ ?_); omega; focus omega)
    | ((with_reducible refine Test.tmodEqF ?_ ?_ ?_); omega; focus omega)
    | ((with_reducible refine Test.tmodNeT ?_ ?_ ?_); omega; focus omega)
    | ((with_reducible refine Test.tmodNeF ?_ ?_ ?_); omega; focus omega)
    | ((with_reducible refine Test.tmodEq ?_ (fun h => ?_) (fun h => ?_)); omega)
    | ((with_reducible refine Test.tmodNe ?_ (fun h => ?_) (fun h => ?_)); omega)
    | ((with_reducible refine Test.notT ?_ ?_); focus assumption)
    | ((with_reducible refine Test.notF ?_ ?_); focus assumption)
    | (with_reducible refine Test.notIe (fun h => ?_) (fun h => ?_))
    | (with_reducible refine Test.notD (fun h => ?_) (fun h => ?_))
    | ((with_reducible refine Test.empty (fun h => ?_) (fun h => ?_)))
    | (with_reducible refine Test.tt ?_)
    | (with_reducible refine Test.ff ?_)
    | ((with_reducible refine Test.dt ?_ ?_); omega)
    | ((with_reducible refine Test.df ?_ ?_); omega)
    | (with_reducible refine Test.d (fun h => ?_) (fun h => ?_))
    | ((with_reducible refine Test.ieT ?_ ?_); omega)
    | ((with_reducible refine Test.ieF ?_ ?_); omega)
    | ((with_reducible refine Test.neT ?_ ?_); omega)
    | ((with_reducible refine Test.neF ?_ ?_); omega)
    | (with_reducible refine Test.ie (fun h => ?_) (fun h => ?_))
    | (with_reducible refine Test.ne (fun h => ?_) (fun h => ?_))
    | ((with_reducible refine Test.b ?_ ?_); (focus first | assumption | (simp [negB]; done) | exact rfl))
    | ((with_reducible refine Test.nb ?_ ?_); (focus first | assumption | (simp [negB]; done) | exact rfl))
    | (with_reducible refine Test.notS (fun h => ?_) (fun h => ?_))
    | (with_reducible refine Test.mk (fun h => ?_) (fun h => ?_))
    | ((with_reducible refine Arith.tdiv ?_ ?_); omega)
    | (with_reducible refine Arith.bv8 ?_)
    | (with_reducible refine Arith.bv16 ?_)
    | (with_reducible refine Arith.bv32 ?_)
    | (with_reducible refine Arith.bv64 ?_)
    | ((with_reducible refine Arith.i64 ?_ ?_); omega)
    | ((with_reducible refine Arith.u64 ?_ ?_); omega)
    | ((with_reducible refine Arith.u32 ?_ ?_); omega)
    | ((with_reducible refine Arith.u16 ?_ ?_); omega)
    | ((with_reducible refine Arith.u8 ?_ ?_); omega)
    | ((with_reducible refine Arith.i32 ?_ ?_); omega)
    | ((with_reducible refine Arith.i64 ?_ ?_); simp (discharger := omega) only [Int.tdiv_eq_ediv_of_nonneg, shr_u8_4, shl_u8_4, shr_u16_4, shl_u16_4, shr_u16_8, shl_u16_8, shr_u32_4, shl_u32_4, shr_u32_8, shl_u32_8, shr_u32_16, shl_u32_16, shr_u32_24, shl_u32_24, shr_u64_4, shl_u64_4, shr_u64_8, shl_u64_8, shr_u64_16, shl_u64_16, shr_u64_24, shl_u64_24, shr_u64_40, shl_u64_40, shr_i64_4, shl_i64_4, shr_i64_8, shl_i64_8, shr_i64_16, shl_i64_16, shr_i64_24, shl_i64_24, shr_i64_40, shl_i64_40]; omega)
    | ((with_reducible refine Arith.u64 ?_ ?_); simp (discharger := omega) only [Int.tdiv_eq_ediv_of_nonneg, shr_u8_4, shl_u8_4, shr_u16_4, shl_u16_4, shr_u16_8, shl_u16_8, shr_u32_4, shl_u32_4, shr_u32_8, shl_u32_8, shr_u32_16, shl_u32_16, shr_u32_24, shl_u32_24, shr_u64_4, shl_u64_4, shr_u64_8, shl_u64_8, shr_u64_16, shl_u64_16, shr_u64_24, shl_u64_24, shr_u64_40, shl_u64_40, shr_i64_4, shl_i64_4, shr_i64_8, shl_i64_8, shr_i64_16, shl_i64_16, shr_i64_24, shl_i64_24, shr_i64_40, shl_i64_40]; omega)
    | ((with_reducible refine Arith.u32 ?_ ?_); simp (discharger := omega) only [Int.tdiv_eq_ediv_of_nonneg, shr_u8_4, shl_u8_4, shr_u16_4, shl_u16_4, shr_u16_8, shl_u16_8, shr_u32_4, shl_u32_4, shr_u32_8, shl_u32_8, shr_u32_16, shl_u32_16, shr_u32_24, shl_u32_24, shr_u64_4, shl_u64_4, shr_u64_8, shl_u64_8, shr_u64_16, shl_u64_16, shr_u64_24, shl_u64_24, shr_u64_40, shl_u64_40, shr_i64_4, shl_i64_4, shr_i64_8, shl_i64_8, shr_i64_16, shl_i64_16, shr_i64_24, shl_i64_24, shr_i64_40, shl_i64_40]; omega)
    | ((with_reducible refine Arith.u16 ?_ ?_); simp (discharger := omega) only [Int.tdiv_eq_ediv_of_nonneg, shr_u8_4, shl_u8_4, shr_u16_4, shl_u16_4, shr_u16_8, shl_u16_8, shr_u32_4, shl_u32_4, shr_u32_8, shl_u32_8, shr_u32_16, shl_u32_16, shr_u32_24, shl_u32_24, shr_u64_4, shl_u64_4, shr_u64_8, shl_u64_8, shr_u64_16, shl_u64_16, shr_u64_24, shl_u64_24, shr_u64_40, shl_u64_40, shr_i64_4, shl_i64_4, shr_i64_8, shl_i64_8, shr_i64_16, shl_i64_16, shr_i64_24, shl_i64_24, shr_i64_40, shl_i64_40]; omega)
    | ((with_reducible refine Arith.u8 ?_ ?_); simp (discharger := omega) only [Int.tdiv_eq_ediv_of_nonneg, shr_u8_4, shl_u8_4, shr_u16_4, shl_u16_4, shr_u16_8, shl_u16_8, shr_u32_4, shl_u32_4, shr_u32_8, shl_u32_8, shr_u32_16, shl_u32_16, shr_u32_24, shl_u32_24, shr_u64_4, shl_u64_4, shr_u64_8, shl_u64_8, shr_u64_16, shl_u64_16, shr_u64_24, shl_u64_24, shr_u64_40, shl_u64_40, shr_i64_4, shl_i64_4, shr_i64_8, shl_i64_8, shr_i64_16, shl_i64_16, shr_i64_24, shl_i64_24, shr_i64_40, shl_i64_40]; omega)
    | (with_reducible refine Arith.mk ?_)
    | (with_reducible refine Ends.mk ?_))
        all_goals rfl
    · refine can_of_W known mix Try.func10 (by kernel_rfl) ok_law10_IpBack (Nat.le_of_ble_eq_true rfl) ?_
      repeat' ((conv => whnf); first
    | ((with_reducible refine Look.mk ?_); refine ⟨_, rfl, ?_⟩)
    | ((with_reducible refine LookN.zeros ?_))
    | ((with_reducible refine LookN.bytes ?_ ?_); (simp; done))
    | ((with_reducible refine BytesW.bytes ?_))
    | ((with_reducible refine Look.byte ?_ ?_); omega)
    | ((with_reducible refine Look.setb ?_ ?_ ?_); exact bv8_bd _; omega)
    | ((with_reducible refine LookN.setb ?_ ?_ ?_); exact bv8_bd _; omega)
    | ((with_reducible refine LookN.mk ?_); refine ⟨_, rfl, ?_⟩)
    | ((with_reducible refine Need.mk ?_ ?_); first | ((with_reducible refine needB ?_); kernel_rfl) | exact rfl | trivial | omega | exact Nat.le_of_ble_eq_true rfl | (exact ⟨rfl, by omega⟩) | (intro h; first | rfl | cases h) | (simp only [lenS_text, lenS_setN, lenS_zeros]; omega) | (simp only [ByteArray.size_append, size_lit, List.size_toArray, List.length_cons, List.length_nil, Sp.ofB_size, ByteArray.size_extract]; omega))
    | ((with_reducible refine BytesW.mk ?_); refine ⟨_, rfl, ?_⟩)
    | (with_reducible refine CallW.det (alive10_det) ?_)
    | (with_reducible refine CallW.can (can_of_W known mix Try.func25 (by kernel_rfl) ok_law10_Long (Nat.le_of_ble_eq_true rfl) ?_) (fun _ _ h => h))
    | (with_reducible refine CallW.can (can_of_W known mix Try.func35 (by kernel_rfl) ok_law10_cut (Nat.le_of_ble_eq_true rfl) ?_) (fun _ _ h => h))
    | ((with_reducible refine Test.tmodEqT ?_ ?_ ?_); omega; focus omega)
    | ((with_reducible refine Test.tmodEqF ?_ ?_ ?_); omega; focus omega)
    | ((with_reducible refine Test.tmodNeT ?_ ?_ ?_); omega; focus omega)
    | ((with_reducible refine Test.tmodNeF ?_ ?_ ?_); omega; focus omega)
    | ((with_reducible refine Test.tmodEq ?_ (fun h => ?_) (fun h => ?_)); omega)
    | ((with_reducible refine Test.tmodNe ?_ (fun h => ?_) (fun h => ?_)); omega)
    | ((with_reducible refine Test.notT ?_ ?_); focus assumption)
    | ((with_reducible refine Test.notF ?_ ?_); focus assumption)
    | (with_reducible refine Test.notIe (fun h => ?_) (fun h => ?_))
    | (with_reducible refine Test.notD (fun h => ?_) (fun h => ?_))
    | ((with_reducible refine Test.empty (fun h => ?_) (fun h => ?_)))
    | (with_reducible refine Test.tt ?_)
    | (with_reducible refine Test.ff ?_)
    | ((with_reducible refine Test.dt ?_ ?_); omega)
    | ((with_reducible refine Test.df ?_ ?_); omega)
    | (with_reducible refine Test.d (fun h => ?_) (fun h => ?_))
    | ((with_reducible refine Test.ieT ?_ ?_); omega)
    | ((with_reducible refine Test.ieF ?_ ?_); omega)
    | ((with_reducible refine Test.neT ?_ ?_); omega)
    | ((with_reducible refine Test.neF ?_ ?_); omega)
    | (with_reducible refine Test.ie (fun h => ?_) (fun h => ?_))
    | (with_reducible refine Test.ne (fun h => ?_) (fun h => ?_))
    | ((with_reducible refine Test.b ?_ ?_); (focus first | assumption | (simp [negB]; done) | exact rfl))
    | ((with_reducible refine Test.nb ?_ ?_); (focus first | assumption | (simp [negB]; done) | exact rfl))
    | (with_reducible refine Test.notS (fun h => ?_) (fun h => ?_))
    | (with_reducible refine Test.mk (fun h => ?_) (fun h => ?_))
    | ((with_reducible refine Arith.tdiv ?_ ?_); omega)
    | (with_reducible refine Arith.bv8 ?_)
    | (with_reducible refine Arith.bv16 ?_)
    | (with_reducible refine Arith.bv32 ?_)
    | (with_reducible refine Arith.bv64 ?_)
    | ((with_reducible refine Arith.i64 ?_ ?_); omega)
    | ((with_reducible refine Arith.u64 ?_ ?_); omega)
    | ((with_reducible refine Arith.u32 ?_ ?_); omega)
    | ((with_reducible refine Arith.u16 ?_ ?_); omega)
    | ((with_reducible refine Arith.u8 ?_ ?_); omega)
    | ((with_reducible refine Arith.i32 ?_ ?_); omega)
    | ((with_reducible refine Arith.i64 ?_ ?_); simp (discharger := omega) only [Int.tdiv_eq_ediv_of_nonneg, shr_u8_4, shl_u8_4, shr_u16_4, shl_u16_4, shr_u16_8, shl_u16_8, shr_u32_4, shl_u32_4, shr_u32_8, shl_u32_8, shr_u32_16, shl_u32_16, shr_u32_24, shl_u32_24, shr_u64_4, shl_u64_4, shr_u64_8, shl_u64_8, shr_u64_16, shl_u64_16, shr_u64_24, shl_u64_24, shr_u64_40, shl_u64_40, shr_i64_4, shl_i64_4, shr_i64_8, shl_i64_8, shr_i64_16, shl_i64_16, shr_i64_24, shl_i64_24, shr_i64_40, shl_i64_40]; omega)
    | ((with_reducible refine Arith.u64 ?_ ?_); simp (discharger := omega) only [Int.tdiv_eq_ediv_of_nonneg, shr_u8_4, shl_u8_4, shr_u16_4, shl_u16_4, shr_u16_8, shl_u16_8, shr_u32_4, shl_u32_4, shr_u32_8, shl_u32_8, shr_u32_16, shl_u32_16, shr_u32_24, shl_u32_24, shr_u64_4, shl_u64_4, shr_u64_8, shl_u64_8, shr_u64_16, shl_u64_16, shr_u64_24, shl_u64_24, shr_u64_40, shl_u64_40, shr_i64_4, shl_i64_4, shr_i64_8, shl_i64_8, shr_i64_16, shl_i64_16, shr_i64_24, shl_i64_24, shr_i64_40, shl_i64_40]; omega)
    | ((with_reducible refine Arith.u32 ?_ ?_); simp (discharger := omega) only [Int.tdiv_eq_ediv_of_nonneg, shr_u8_4, shl_u8_4, shr_u16_4, shl_u16_4, shr_u16_8, shl_u16_8, shr_u32_4, shl_u32_4, shr_u32_8, shl_u32_8, shr_u32_16, shl_u32_16, shr_u32_24, shl_u32_24, shr_u64_4, shl_u64_4, shr_u64_8, shl_u64_8, shr_u64_16, shl_u64_16, shr_u64_24, shl_u64_24, shr_u64_40, shl_u64_40, shr_i64_4, shl_i64_4, shr_i64_8, shl_i64_8, shr_i64_16, shl_i64_16, shr_i64_24, shl_i64_24, shr_i64_40, shl_i64_40]; omega)
    | ((with_reducible refine Arith.u16 ?_ ?_); simp (discharger := omega) only [Int.tdiv_eq_ediv_of_nonneg, shr_u8_4, shl_u8_4, shr_u16_4, shl_u16_4, shr_u16_8, shl_u16_8, shr_u32_4, shl_u32_4, shr_u32_8, shl_u32_8, shr_u32_16, shl_u32_16, shr_u32_24, shl_u32_24, shr_u64_4, shl_u64_4, shr_u64_8, shl_u64_8, shr_u64_16, shl_u64_16, shr_u64_24, shl_u64_24, shr_u64_40, shl_u64_40, shr_i64_4, shl_i64_4, shr_i64_8, shl_i64_8, shr_i64_16, shl_i64_16, shr_i64_24, shl_i64_24, shr_i64_40, shl_i64_40]; omega)
    | ((with_reducible refine Arith.u8 ?_ ?_); simp (discharger := omega) only [Int.tdiv_eq_ediv_of_nonneg, shr_u8_4, shl_u8_4, shr_u16_4, shl_u16_4, shr_u16_8, shl_u16_8, shr_u32_4, shl_u32_4, shr_u32_8, shl_u32_8, shr_u32_16, shl_u32_16, shr_u32_24, shl_u32_24, shr_u64_4, shl_u64_4, shr_u64_8, shl_u64_8, shr_u64_16, shl_u64_16, shr_u64_24, shl_u64_24, shr_u64_40, shl_u64_40, shr_i64_4, shl_i64_4, shr_i64_8, shl_i64_8, shr_i64_16, shl_i64_16, shr_i64_24, shl_i64_24, shr_i64_40, shl_i64_40]; omega)
    | (with_reducible refine Arith.mk ?_)
    | (with_reducible refine Ends.mk ?_))
      all_goals rfl
  · refine can_of_W known mix Try.func10 (by kernel_rfl) ok_law10_IpBack (Nat.le_of_ble_eq_true rfl) ?_
    repeat' ((conv => whnf); first
    | ((with_reducible refine Look.mk ?_); refine ⟨_, rfl, ?_⟩)
    | ((with_reducible refine LookN.zeros ?_))
    | ((with_reducible refine LookN.bytes ?_ ?_); (simp; done))
    | ((with_reducible refine BytesW.bytes ?_))
    | ((with_reducible refine Look.byte ?_ ?_); omega)
    | ((with_reducible refine Look.setb ?_ ?_ ?_); exact bv8_bd _; omega)
    | ((with_reducible refine LookN.setb ?_ ?_ ?_); exact bv8_bd _; omega)
    | ((with_reducible refine LookN.mk ?_); refine ⟨_, rfl, ?_⟩)
    | ((with_reducible refine Need.mk ?_ ?_); first | ((with_reducible refine needB ?_); kernel_rfl) | exact rfl | trivial | omega | exact Nat.le_of_ble_eq_true rfl | (exact ⟨rfl, by omega⟩) | (intro h; first | rfl | cases h) | (simp only [lenS_text, lenS_setN, lenS_zeros]; omega) | (simp only [ByteArray.size_append, size_lit, List.size_toArray, List.length_cons, List.length_nil, Sp.ofB_size, ByteArray.size_extract]; omega))
    | ((with_reducible refine BytesW.mk ?_); refine ⟨_, rfl, ?_⟩)
    | (with_reducible refine CallW.det (alive10_det) ?_)
    | (with_reducible refine CallW.can (can_of_W known mix Try.func25 (by kernel_rfl) ok_law10_Long (Nat.le_of_ble_eq_true rfl) ?_) (fun _ _ h => h))
    | (with_reducible refine CallW.can (can_of_W known mix Try.func35 (by kernel_rfl) ok_law10_cut (Nat.le_of_ble_eq_true rfl) ?_) (fun _ _ h => h))
    | ((with_reducible refine Test.tmodEqT ?_ ?_ ?_); omega; focus omega)
    | ((with_reducible refine Test.tmodEqF ?_ ?_ ?_); omega; focus omega)
    | ((with_reducible refine Test.tmodNeT ?_ ?_ ?_); omega; focus omega)
    | ((with_reducible refine Test.tmodNeF ?_ ?_ ?_); omega; focus omega)
    | ((with_reducible refine Test.tmodEq ?_ (fun h => ?_) (fun h => ?_)); omega)
    | ((with_reducible refine Test.tmodNe ?_ (fun h => ?_) (fun h => ?_)); omega)
    | ((with_reducible refine Test.notT ?_ ?_); focus assumption)
    | ((with_reducible refine Test.notF ?_ ?_); focus assumption)
    | (with_reducible refine Test.notIe (fun h => ?_) (fun h => ?_))
    | (with_reducible refine Test.notD (fun h => ?_) (fun h => ?_))
    | ((with_reducible refine Test.empty (fun h => ?_) (fun h => ?_)))
    | (with_reducible refine Test.tt ?_)
    | (with_reducible refine Test.ff ?_)
    | ((with_reducible refine Test.dt ?_ ?_); omega)
    | ((with_reducible refine Test.df ?_ ?_); omega)
    | (with_reducible refine Test.d (fun h => ?_) (fun h => ?_))
    | ((with_reducible refine Test.ieT ?_ ?_); omega)
    | ((with_reducible refine Test.ieF ?_ ?_); omega)
    | ((with_reducible refine Test.neT ?_ ?_); omega)
    | ((with_reducible refine Test.neF ?_ ?_); omega)
    | (with_reducible refine Test.ie (fun h => ?_) (fun h => ?_))
    | (with_reducible refine Test.ne (fun h => ?_) (fun h => ?_))
    | ((with_reducible refine Test.b ?_ ?_); (focus first | assumption | (simp [negB]; done) | exact rfl))
    | ((with_reducible refine Test.nb ?_ ?_); (focus first | assumption | (simp [negB]; done) | exact rfl))
    | (with_reducible refine Test.notS (fun h => ?_) (fun h => ?_))
    | (with_reducible refine Test.mk (fun h => ?_) (fun h => ?_))
    | ((with_reducible refine Arith.tdiv ?_ ?_); omega)
    | (with_reducible refine Arith.bv8 ?_)
    | (with_reducible refine Arith.bv16 ?_)
    | (with_reducible refine Arith.bv32 ?_)
    | (with_reducible refine Arith.bv64 ?_)
    | ((with_reducible refine Arith.i64 ?_ ?_); omega)
    | ((with_reducible refine Arith.u64 ?_ ?_); omega)
    | ((with_reducible refine Arith.u32 ?_ ?_); omega)
    | ((with_reducible refine Arith.u16 ?_ ?_); omega)
    | ((with_reducible refine Arith.u8 ?_ ?_); omega)
    | ((with_reducible refine Arith.i32 ?_ ?_); omega)
    | ((with_reducible refine Arith.i64 ?_ ?_); simp (discharger := omega) only [Int.tdiv_eq_ediv_of_nonneg, shr_u8_4, shl_u8_4, shr_u16_4, shl_u16_4, shr_u16_8, shl_u16_8, shr_u32_4, shl_u32_4, shr_u32_8, shl_u32_8, shr_u32_16, shl_u32_16, shr_u32_24, shl_u32_24, shr_u64_4, shl_u64_4, shr_u64_8, shl_u64_8, shr_u64_16, shl_u64_16, shr_u64_24, shl_u64_24, shr_u64_40, shl_u64_40, shr_i64_4, shl_i64_4, shr_i64_8, shl_i64_8, shr_i64_16, shl_i64_16, shr_i64_24, shl_i64_24, shr_i64_40, shl_i64_40]; omega)
    | ((with_reducible refine Arith.u64 ?_ ?_); simp (discharger := omega) only [Int.tdiv_eq_ediv_of_nonneg, shr_u8_4, shl_u8_4, shr_u16_4, shl_u16_4, shr_u16_8, shl_u16_8, shr_u32_4, shl_u32_4, shr_u32_8, shl_u32_8, shr_u32_16, shl_u32_16, shr_u32_24, shl_u32_24, shr_u64_4, shl_u64_4, shr_u64_8, shl_u64_8, shr_u64_16, shl_u64_16, shr_u64_24, shl_u64_24, shr_u64_40, shl_u64_40, shr_i64_4, shl_i64_4, shr_i64_8, shl_i64_8, shr_i64_16, shl_i64_16, shr_i64_24, shl_i64_24, shr_i64_40, shl_i64_40]; omega)
    | ((with_reducible refine Arith.u32 ?_ ?_); simp (discharger := omega) only [Int.tdiv_eq_ediv_of_nonneg, shr_u8_4, shl_u8_4, shr_u16_4, shl_u16_4, shr_u16_8, shl_u16_8, shr_u32_4, shl_u32_4, shr_u32_8, shl_u32_8, shr_u32_16, shl_u32_16, shr_u32_24, shl_u32_24, shr_u64_4, shl_u64_4, shr_u64_8, shl_u64_8, shr_u64_16, shl_u64_16, shr_u64_24, shl_u64_24, shr_u64_40, shl_u64_40, shr_i64_4, shl_i64_4, shr_i64_8, shl_i64_8, shr_i64_16, shl_i64_16, shr_i64_24, shl_i64_24, shr_i64_40, shl_i64_40]; omega)
    | ((with_reducible refine Arith.u16 ?_ ?_); simp (discharger := omega) only [Int.tdiv_eq_ediv_of_nonneg, shr_u8_4, shl_u8_4, shr_u16_4, shl_u16_4, shr_u16_8, shl_u16_8, shr_u32_4, shl_u32_4, shr_u32_8, shl_u32_8, shr_u32_16, shl_u32_16, shr_u32_24, shl_u32_24, shr_u64_4, shl_u64_4, shr_u64_8, shl_u64_8, shr_u64_16, shl_u64_16, shr_u64_24, shl_u64_24, shr_u64_40, shl_u64_40, shr_i64_4, shl_i64_4, shr_i64_8, shl_i64_8, shr_i64_16, shl_i64_16, shr_i64_24, shl_i64_24, shr_i64_40, shl_i64_40]; omega)
    | ((with_reducible refine Arith.u8 ?_ ?_); simp (discharger := omega) only [Int.tdiv_eq_ediv_of_nonneg, shr_u8_4, shl_u8_4, shr_u16_4, shl_u16_4, shr_u16_8, shl_u16_8, shr_u32_4, shl_u32_4, shr_u32_8, shl_u32_8, shr_u32_16, shl_u32_16, shr_u32_24, shl_u32_24, shr_u64_4, shl_u64_4, shr_u64_8, shl_u64_8, shr_u64_16, shl_u64_16, shr_u64_24, shl_u64_24, shr_u64_40, shl_u64_40, shr_i64_4, shl_i64_4, shr_i64_8, shl_i64_8, shr_i64_16, shl_i64_16, shr_i64_24, shl_i64_24, shr_i64_40, shl_i64_40]; omega)
    | (with_reducible refine Arith.mk ?_)
    | (with_reducible refine Ends.mk ?_))
    all_goals rfl
theorem own10 (tos id : Int) (hold more : Bool) (at_ ttl proto fr tt : Int) (o : ByteArray) (d r : ByteArray) (htos : 0 ≤ tos ∧ tos ≤ 255) (hid : 0 ≤ id ∧ id ≤ 65535) (hat : -9223372036854775808 ≤ at_ ∧ at_ ≤ 9223372036854775807) (httl : 0 ≤ ttl ∧ ttl ≤ 255) (hproto : 0 ≤ proto ∧ proto ≤ 255) (hfr : 0 ≤ fr ∧ fr ≤ 4294967295) (htt : 0 ≤ tt ∧ tt ≤ 4294967295) (he : enc10e more at_ o d = 0) : dec10e (header10 tos id hold more at_ ttl proto fr tt o d.size ++ (d ++ r)) = 0 ∧ dec10 (header10 tos id hold more at_ ttl proto fr tt o d.size ++ (d ++ r)) = hdr tos id hold more at_ ttl proto fr tt o ∧ dec10d (header10 tos id hold more at_ ttl proto fr tt o d.size ++ (d ++ r)) = d := by
  obtain ⟨hm, hwh, hf⟩ := enc10_ok he
  have hmb := may10_bd hm
  have hfb := of_decide_eq_true hf
  have hz2 : (d ++ r).size = d.size + r.size := ByteArray.size_append
  have SP := says10 tos id hold more at_ ttl proto fr tt o (d ++ r) d.size htos hid (by omega) httl hproto hfr htt hmb.2.2.2.1 (by omega)
  obtain ⟨d1, d2, d3⟩ := SP.dec hm hwh hf (by omega) (by omega)
  have hx : (d ++ r).extract 0 (d.size : Int).toNat = d := Sp.extract_append_left d r
  rw [hx] at d3
  exact ⟨d1, d2, d3⟩
theorem raw10_same (tos id : Int) (hold more : Bool) (at_ ttl proto fr tt : Int) (o : ByteArray) (d : ByteArray) (tos1 id1 : Int) (hold1 more1 : Bool) (at_1 ttl1 proto1 fr1 tt1 : Int) (o1 : ByteArray) (d1 : ByteArray) (htos : 0 ≤ tos ∧ tos ≤ 255) (hid : 0 ≤ id ∧ id ≤ 65535) (hat : -9223372036854775808 ≤ at_ ∧ at_ ≤ 9223372036854775807) (httl : 0 ≤ ttl ∧ ttl ≤ 255) (hproto : 0 ≤ proto ∧ proto ≤ 255) (hfr : 0 ≤ fr ∧ fr ≤ 4294967295) (htt : 0 ≤ tt ∧ tt ≤ 4294967295) (htos1 : 0 ≤ tos1 ∧ tos1 ≤ 255) (hid1 : 0 ≤ id1 ∧ id1 ≤ 65535) (hat1 : -9223372036854775808 ≤ at_1 ∧ at_1 ≤ 9223372036854775807) (httl1 : 0 ≤ ttl1 ∧ ttl1 ≤ 255) (hproto1 : 0 ≤ proto1 ∧ proto1 ≤ 255) (hfr1 : 0 ≤ fr1 ∧ fr1 ≤ 4294967295) (htt1 : 0 ≤ tt1 ∧ tt1 ≤ 4294967295) (he : enc10e more at_ o d = 0) (he1 : enc10e more1 at_1 o1 d1 = 0) : ((header10 tos id hold more at_ ttl proto fr tt o d.size ++ d).toList == (header10 tos1 id1 hold1 more1 at_1 ttl1 proto1 fr1 tt1 o1 d1.size ++ d1).toList) = (((tos == tos1) && ((id == id1) && ((hold == hold1) && ((more == more1) && ((at_ == at_1) && ((ttl == ttl1) && ((proto == proto1) && ((fr == fr1) && ((tt == tt1) && ((o.toList == o1.toList) && true)))))))))) && (d.toList == d1.toList)) := by
  obtain ⟨a1, a2, a3⟩ := own10 tos id hold more at_ ttl proto fr tt o d ⟨#[]⟩ htos hid hat httl hproto hfr htt he
  obtain ⟨b1, b2, b3⟩ := own10 tos1 id1 hold1 more1 at_1 ttl1 proto1 fr1 tt1 o1 d1 ⟨#[]⟩ htos1 hid1 hat1 httl1 hproto1 hfr1 htt1 he1
  rw [app_nil] at a1 a2 a3 b1 b2 b3
  rw [Bool.eq_iff_iff]
  simp only [Bool.and_eq_true, beq_iff_eq, and_true, true_and, ByteArray.toList_eq]
  constructor
  · intro e
    have e' := ba_ext e
    rw [e', b2] at a2
    rw [e', b3] at a3
    simp only [hdr, List.cons.injEq, SV.int.injEq, SV.str.injEq, SV.bool.injEq, and_true, true_and] at a2
    obtain ⟨g1, g2, g3, g4, g5, g6, g7, g8, g9, g10⟩ := a2
    subst g1 g2 g3 g4 g5 g6 g7 g8 g9 g10 a3
    simp
  · rintro ⟨⟨rfl, rfl, rfl, rfl, rfl, rfl, rfl, rfl, rfl, e⟩, e2⟩
    rw [ba_ext e, ba_ext e2]
theorem ipback_row (tos id : Int) (hold more : Bool) (at_ ttl proto fr tt : Int) (o : ByteArray) (tos1 id1 : Int) (hold1 more1 : Bool) (at_1 ttl1 proto1 fr1 tt1 : Int) (o1 : ByteArray) (d d1 b : ByteArray) (k : Int) (w_ : World) (htos : 0 ≤ tos ∧ tos ≤ 255) (hid : 0 ≤ id ∧ id ≤ 65535) (hat : -9223372036854775808 ≤ at_ ∧ at_ ≤ 9223372036854775807) (httl : 0 ≤ ttl ∧ ttl ≤ 255) (hproto : 0 ≤ proto ∧ proto ≤ 255) (hfr : 0 ≤ fr ∧ fr ≤ 4294967295) (htt : 0 ≤ tt ∧ tt ≤ 4294967295) (ho_ : o.size ≤ maxLen) (htos1 : 0 ≤ tos1 ∧ tos1 ≤ 255) (hid1 : 0 ≤ id1 ∧ id1 ≤ 65535) (hat1 : -9223372036854775808 ≤ at_1 ∧ at_1 ≤ 9223372036854775807) (httl1 : 0 ≤ ttl1 ∧ ttl1 ≤ 255) (hproto1 : 0 ≤ proto1 ∧ proto1 ≤ 255) (hfr1 : 0 ≤ fr1 ∧ fr1 ≤ 4294967295) (htt1 : 0 ≤ tt1 ∧ tt1 ≤ 4294967295) (ho1_ : o1.size ≤ maxLen) (hd_ : d.size ≤ maxLen) (hd1_ : d1.size ≤ maxLen) (hb_ : b.size ≤ maxLen) (hk : 0 ≤ k ∧ k ≤ 65535) :
    Calls Try.prog 10 #[.agg #[.int .u8 tos, .int .u16 id, .bool hold, .bool more, .int .i64 at_, .int .u8 ttl, .int .u8 proto, .int .u32 fr, .int .u32 tt, .string o], .agg #[.int .u8 tos1, .int .u16 id1, .bool hold1, .bool more1, .int .i64 at_1, .int .u8 ttl1, .int .u8 proto1, .int .u32 fr1, .int .u32 tt1, .string o1], .string d, .string d1, .string b, .int .u16 k] w_ fun e w' => e = .returned (.bool true) ∧ Below w_.heap.size w_ w' := by
  by_cases h : (o.size : Int) ≤ 256 ∧ (d.size : Int) ≤ 131072 ∧ (o1.size : Int) ≤ 256 ∧ (d1.size : Int) ≤ 131072 ∧ (b.size : Int) ≤ 4096
  · obtain ⟨h1, h2, h3, h4, h5⟩ := h
    have E := enc_det tos id hold more at_ ttl proto fr tt o d htos hid hat httl hproto hfr htt (by omega) (by omega)
    have E1 := enc_det tos1 id1 hold1 more1 at_1 ttl1 proto1 fr1 tt1 o1 d1 htos1 hid1 hat1 httl1 hproto1 hfr1 htt1 (by omega) (by omega)
    by_cases he : enc10e more at_ o d = 0
    · obtain ⟨hm, hwh, hf⟩ := enc10_ok he
      have hmb := may10_bd hm
      have hfb := of_decide_eq_true hf
      obtain ⟨a1, a2, a3⟩ := own10 tos id hold more at_ ttl proto fr tt o d b htos hid hat httl hproto hfr htt he
      have hhz := header10_size tos id hold more at_ ttl proto fr tt o d.size
      have SP := says10 tos id hold more at_ ttl proto fr tt o d d.size htos hid (by omega) httl hproto hfr htt hmb.2.2.2.1 (by omega)
      have hS : enc10 tos id hold more at_ ttl proto fr tt o d = header10 tos id hold more at_ ttl proto fr tt o d.size ++ d := if_pos he
      rw [hS, he] at E
      have hq : enc10e more1 at_1 o1 d1 = 0 → ((header10 tos id hold more at_ ttl proto fr tt o d.size ++ d).toList == (enc10 tos1 id1 hold1 more1 at_1 ttl1 proto1 fr1 tt1 o1 d1).toList) = (((tos == tos1) && ((id == id1) && ((hold == hold1) && ((more == more1) && ((at_ == at_1) && ((ttl == ttl1) && ((proto == proto1) && ((fr == fr1) && ((tt == tt1) && ((o.toList == o1.toList) && true)))))))))) && (d.toList == d1.toList)) := fun he1 => by
        rw [show enc10 tos1 id1 hold1 more1 at_1 ttl1 proto1 fr1 tt1 o1 d1 = header10 tos1 id1 hold1 more1 at_1 ttl1 proto1 fr1 tt1 o1 d1.size ++ d1 from if_pos he1]
        exact raw10_same tos id hold more at_ ttl proto fr tt o d tos1 id1 hold1 more1 at_1 ttl1 proto1 fr1 tt1 o1 d1 htos hid hat httl hproto hfr htt htos1 hid1 hat1 httl1 hproto1 hfr1 htt1 he he1
      have hSz : (header10 tos id hold more at_ ttl proto fr tt o d.size ++ d).size = 20 + o.size + d.size := by rw [ByteArray.size_append, hhz]
      rw [← app_assoc] at a1 a2 a3
      generalize hG : header10 tos id hold more at_ ttl proto fr tt o d.size ++ d = S at *
      have D := dec_det (S ++ b) (by rw [ByteArray.size_append]; omega)
      rw [a1, a2, a3] at D
      refine calls_of_can (ipback_yes tos id hold more at_ ttl proto fr tt o tos1 id1 hold1 more1 at_1 ttl1 proto1 fr1 tt1 o1 d d1 b k h1 h2 h3 h4 h5 S _ _ (by omega) (by omega) hk E E1 D ?_ ?_ ?_) rfl rfl w_
      · intro n hn
        have C := dec_det (S.extract 0 n) (by rw [ByteArray.size_extract]; omega)
        obtain ⟨tos2, id2, hold2, more2, at_2, ttl2, proto2, fr2, tt2, o2, q⟩ := dec10_form' (S.extract 0 n)
        rw [q, short10 SP hm (by omega) n hn (by omega)] at C
        exact ⟨tos2, id2, hold2, more2, at_2, ttl2, proto2, fr2, tt2, o2, _, C⟩
      · intro he1 hc
        rw [hq he1, show ((tos == tos1) && ((id == id1) && ((hold == hold1) && ((more == more1) && ((at_ == at_1) && ((ttl == ttl1) && ((proto == proto1) && ((fr == fr1) && ((tt == tt1) && ((o.toList == o1.toList) && true)))))))))) = true from hc, Bool.true_and]
      · intro he1 hc
        rw [hq he1, show ((tos == tos1) && ((id == id1) && ((hold == hold1) && ((more == more1) && ((at_ == at_1) && ((ttl == ttl1) && ((proto == proto1) && ((fr == fr1) && ((tt == tt1) && ((o.toList == o1.toList) && true)))))))))) = false from hc, Bool.false_and]
    · exact calls_of_can (ipback_no tos id hold more at_ ttl proto fr tt o tos1 id1 hold1 more1 at_1 ttl1 proto1 fr1 tt1 o1 d d1 b k h1 h2 h3 h4 h5 _ _ _ _ he E E1) rfl rfl w_
  · exact calls_of_can (ipback_far tos id hold more at_ ttl proto fr tt o tos1 id1 hold1 more1 at_1 ttl1 proto1 fr1 tt1 o1 d d1 b k h) rfl rfl w_
end G2
end Go.Proofs.Ytnmeeafnobfobaa.VM
