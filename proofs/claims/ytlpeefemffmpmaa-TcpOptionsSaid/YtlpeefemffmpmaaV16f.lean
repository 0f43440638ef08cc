/- law 16 by the evaluator: the laws TcpBack, TcpEnds. -/
import Derived.Test.YtlpeefemffmpmaaV16e
namespace Go.Proofs.Ytlpeefemffmpmaa.VM
namespace L16
open Go.RowKit
set_option linter.unusedVariables false
set_option linter.unusedSimpArgs false
set_option maxRecDepth 100000
def vf_law16_TcpBack : VFn := ⟨(.seq (.reg [
    ⟨(some 4), .box (.t 0), none, 0⟩,
    ⟨(some 5), .box (.t 1), none, 1⟩,
    ⟨(some 8), .mv (.c (.p (.o (.bool false)))), none, 2⟩] 2 none) (.seq (.seq (.reg [
    ⟨(some 18), .fad 11 (.t 4), none, 0⟩,
    ⟨(some 19), .ld none (.t 18), none, 0⟩,
    ⟨(some 20), .len false (.t 19), none, 0⟩,
    ⟨(some 21), .bin .gtr (.t 20) (.c (.p (.o (.int .i64 4096)))), none, 0⟩,
    ⟨(some 22), .mv (.t 21), none, 0⟩,
    ⟨(some 23), .fad 11 (.t 5), (some (22, false)), 0⟩,
    ⟨(some 24), .ld none (.t 23), (some (22, false)), 0⟩,
    ⟨(some 25), .len false (.t 24), (some (22, false)), 0⟩,
    ⟨(some 26), .bin .gtr (.t 25) (.c (.p (.o (.int .i64 4096)))), (some (22, false)), 0⟩,
    ⟨(some 27), .pick (.t 22) (.c (.p (.o (.bool true)))) (.t 26), none, 0⟩] 0 none) (.cond (.t 27) (.seq (.reg [
    ⟨(some 28), .call 35 [] 0, none, 0⟩,
    ⟨(some 8), .mv (.t 28), none, 0⟩] 0 none) .ret) .skip)) (.seq (.reg [
    ⟨(some 29), .fad 0 (.t 4), none, 0⟩,
    ⟨(some 30), .fad 0 (.t 29), none, 0⟩,
    ⟨(some 31), .fad 0 (.t 30), none, 0⟩,
    ⟨(some 32), .ld none (.t 31), none, 0⟩,
    ⟨(some 33), .fad 0 (.t 5), none, 0⟩,
    ⟨(some 34), .fad 0 (.t 33), none, 0⟩,
    ⟨(some 35), .fad 0 (.t 34), none, 0⟩,
    ⟨none, .st 1 (.t 35) (.t 32), none, 0⟩] 0 none) (.seq (.reg [
    ⟨(some 36), .fad 0 (.t 4), none, 0⟩,
    ⟨(some 37), .fad 2 (.t 36), none, 0⟩,
    ⟨(some 38), .fad 0 (.t 37), none, 0⟩,
    ⟨(some 39), .ld none (.t 38), none, 0⟩,
    ⟨(some 40), .fad 0 (.t 5), none, 0⟩,
    ⟨(some 41), .fad 2 (.t 40), none, 0⟩,
    ⟨(some 42), .fad 0 (.t 41), none, 0⟩,
    ⟨none, .st 1 (.t 42) (.t 39), none, 0⟩] 0 none) (.seq (.reg [
    ⟨(some 44), .ld (some 12) (.t 4), none, 0⟩,
    ⟨(some 45), .call 36 [(.t 44)] 0, none, 0⟩,
    ⟨(some 43), .mv (.t 45), none, 0⟩,
    ⟨(some 46), .ext 0 (.t 43), none, 0⟩,
    ⟨(some 47), .ext 1 (.t 43), none, 0⟩,
    ⟨(some 9), .mv (.t 46), none, 0⟩,
    ⟨(some 10), .mv (.t 47), none, 0⟩] 0 none) (.seq (.reg [
    ⟨(some 49), .ld (some 12) (.t 5), none, 0⟩,
    ⟨(some 50), .call 36 [(.t 49)] 0, none, 0⟩,
    ⟨(some 48), .mv (.t 50), none, 0⟩,
    ⟨(some 51), .ext 0 (.t 48), none, 0⟩,
    ⟨(some 52), .ext 1 (.t 48), none, 0⟩,
    ⟨(some 11), .mv (.t 51), none, 0⟩,
    ⟨(some 12), .mv (.t 52), none, 0⟩] 0 none) (.seq (.seq (.reg [
    ⟨(some 53), .mv (.t 10), none, 0⟩,
    ⟨(some 54), .bin .neq (.t 53) (.c (.p (.o (.int .i64 0)))), none, 0⟩] 0 none) (.cond (.t 54) (.seq (.reg [
    ⟨(some 55), .mv (.t 10), none, 0⟩,
    ⟨(some 56), .bin .eql (.t 55) (.c (.p (.o (.int .i64 2)))), none, 0⟩,
    ⟨(some 57), .mv (.t 56), none, 0⟩,
    ⟨(some 58), .ld (some 12) (.t 4), (some (57, true)), 0⟩,
    ⟨(some 59), .call 42 [(.t 58)] 0, (some (57, true)), 0⟩,
    ⟨(some 60), .un .not (.t 59), (some (57, true)), 0⟩,
    ⟨(some 61), .pick (.t 57) (.t 60) (.c (.p (.o (.bool false)))), none, 0⟩,
    ⟨(some 62), .mv (.t 61), none, 0⟩,
    ⟨(some 63), .call 35 [] 0, (some (62, true)), 0⟩,
    ⟨(some 64), .pick (.t 62) (.t 63) (.c (.p (.o (.bool false)))), none, 0⟩,
    ⟨(some 8), .mv (.t 64), none, 0⟩] 0 none) .ret) .skip)) (.seq (.reg [
    ⟨(some 66), .fad 0 (.t 4), none, 0⟩,
    ⟨(some 67), .fad 0 (.t 66), none, 0⟩,
    ⟨(some 68), .fad 0 (.t 67), none, 0⟩,
    ⟨(some 69), .ld none (.t 68), none, 0⟩,
    ⟨(some 70), .fad 0 (.t 4), none, 0⟩,
    ⟨(some 71), .fad 2 (.t 70), none, 0⟩,
    ⟨(some 72), .fad 0 (.t 71), none, 0⟩,
    ⟨(some 73), .ld none (.t 72), none, 0⟩,
    ⟨(some 74), .mv (.t 9), none, 0⟩,
    ⟨(some 75), .call 38 [(.t 69), (.t 73), (.t 74)] 0, none, 0⟩,
    ⟨(some 65), .mv (.t 75), none, 0⟩,
    ⟨(some 76), .ext 0 (.t 65), none, 0⟩,
    ⟨(some 77), .ext 1 (.t 65), none, 0⟩,
    ⟨(some 13), .new [.int .u32 0, .int .u16 0, .int .u32 0, .int .u16 0, .int .u32 0, .int .u32 0, .int .u8 0, .int .u16 0, .int .u16 0, .int .u16 0, .int .i64 0, .str ⟨#[]⟩], none, 0⟩,
    ⟨none, .st 12 (.t 13) (.t 76), none, 1⟩,
    ⟨(some 14), .mv (.t 77), none, 1⟩] 1 none) (.seq (.seq (.reg [
    ⟨(some 78), .ld (some 12) (.t 13), none, 0⟩,
    ⟨(some 79), .ld (some 12) (.t 4), none, 0⟩,
    ⟨(some 80), .eq (.flat [.int .u32, .int .u16, .int .u32, .int .u16, .int .u32, .int .u32, .int .u8, .int .u16, .int .u16, .int .u16, .int .i64, .str]) true (.t 78) (.t 79), none, 0⟩,
    ⟨(some 81), .mv (.t 80), none, 0⟩,
    ⟨(some 82), .mv (.t 14), (some (81, false)), 0⟩,
    ⟨(some 83), .bin .neq (.t 82) (.c (.p (.o (.int .i64 0)))), (some (81, false)), 0⟩,
    ⟨(some 84), .pick (.t 81) (.c (.p (.o (.bool true)))) (.t 83), none, 0⟩,
    ⟨(some 85), .mv (.t 84), none, 0⟩,
    ⟨(some 86), .mv (.t 12), (some (85, false)), 0⟩,
    ⟨(some 87), .bin .eql (.t 86) (.c (.p (.o (.int .i64 0)))), (some (85, false)), 0⟩,
    ⟨(some 88), .mv (.t 87), (some (85, false)), 0⟩,
    ⟨(some 89), .mv (.t 9), (some (88, true)), 0⟩,
    ⟨(some 90), .mv (.t 11), (some (88, true)), 0⟩,
    ⟨(some 91), .bin .eql (.t 89) (.t 90), (some (88, true)), 0⟩,
    ⟨(some 92), .ld (some 12) (.t 4), (some (88, true)), 0⟩,
    ⟨(some 93), .ld (some 12) (.t 5), (some (88, true)), 0⟩,
    ⟨(some 94), .eq (.flat [.int .u32, .int .u16, .int .u32, .int .u16, .int .u32, .int .u32, .int .u8, .int .u16, .int .u16, .int .u16, .int .i64, .str]) false (.t 92) (.t 93), (some (88, true)), 0⟩,
    ⟨(some 95), .eq .bool true (.t 91) (.t 94), (some (88, true)), 0⟩,
    ⟨(some 96), .pick (.t 88) (.t 95) (.c (.p (.o (.bool false)))), (some (85, false)), 0⟩,
    ⟨(some 97), .pick (.t 85) (.c (.p (.o (.bool true)))) (.t 96), none, 0⟩] 0 none) (.cond (.t 97) (.seq (.reg [
    ⟨(some 8), .mv (.c (.p (.o (.bool false)))), none, 0⟩] 0 none) .ret) .skip)) (.seq (.reg [
    ⟨(some 98), .mv (.t 9), none, 0⟩,
    ⟨(some 99), .s2b (.t 98), none, 0⟩,
    ⟨(some 15), .mv (.t 99), none, 1⟩] 1 none) (.seq (.seq (.reg [
    ⟨(some 100), .mv (.t 15), none, 0⟩,
    ⟨(some 101), .len true (.t 100), none, 0⟩,
    ⟨(some 102), .bin .eql (.t 101) (.c (.p (.o (.int .i64 0)))), none, 0⟩] 0 none) (.cond (.t 102) (.seq (.reg [
    ⟨(some 8), .mv (.c (.p (.o (.bool false)))), none, 0⟩] 0 none) .ret) .skip)) (.seq (.reg [
    ⟨(some 103), .mv (.t 15), none, 0⟩,
    ⟨(some 104), .mv (.t 2), none, 0⟩,
    ⟨(some 105), .cvi .i64 (.t 104), none, 0⟩,
    ⟨(some 106), .mv (.t 15), none, 0⟩,
    ⟨(some 107), .len true (.t 106), none, 0⟩,
    ⟨(some 108), .bin .rem (.t 105) (.t 107), none, 0⟩,
    ⟨(some 109), .iad 1 (.t 103) (.t 108), none, 0⟩,
    ⟨(some 110), .ld none (.t 109), none, 0⟩,
    ⟨(some 111), .mv (.t 3), none, 0⟩,
    ⟨(some 112), .bin .xor (.t 110) (.t 111), none, 0⟩,
    ⟨(some 113), .iad 1 (.t 103) (.t 108), none, 0⟩,
    ⟨none, .st 1 (.t 113) (.t 112), none, 0⟩] 0 none) (.seq (.reg [
    ⟨(some 115), .fad 0 (.t 4), none, 0⟩,
    ⟨(some 116), .fad 0 (.t 115), none, 0⟩,
    ⟨(some 117), .fad 0 (.t 116), none, 0⟩,
    ⟨(some 118), .ld none (.t 117), none, 0⟩,
    ⟨(some 119), .fad 0 (.t 4), none, 0⟩,
    ⟨(some 120), .fad 2 (.t 119), none, 0⟩,
    ⟨(some 121), .fad 0 (.t 120), none, 0⟩,
    ⟨(some 122), .ld none (.t 121), none, 0⟩,
    ⟨(some 123), .mv (.t 15), none, 0⟩,
    ⟨(some 124), .b2s (.t 123), none, 0⟩,
    ⟨(some 125), .call 38 [(.t 118), (.t 122), (.t 124)] 0, none, 0⟩,
    ⟨(some 114), .mv (.t 125), none, 0⟩,
    ⟨(some 126), .ext 0 (.t 114), none, 0⟩,
    ⟨(some 127), .ext 1 (.t 114), none, 0⟩,
    ⟨(some 16), .new [.int .u32 0, .int .u16 0, .int .u32 0, .int .u16 0, .int .u32 0, .int .u32 0, .int .u8 0, .int .u16 0, .int .u16 0, .int .u16 0, .int .i64 0, .str ⟨#[]⟩], none, 0⟩,
    ⟨none, .st 12 (.t 16) (.t 126), none, 1⟩,
    ⟨(some 17), .mv (.t 127), none, 1⟩] 1 none) (.seq (.reg [
    ⟨(some 128), .mv (.t 17), none, 0⟩,
    ⟨(some 129), .bin .eql (.t 128) (.c (.p (.o (.int .i64 0)))), none, 0⟩,
    ⟨(some 130), .mv (.t 3), none, 0⟩,
    ⟨(some 131), .bin .eql (.t 130) (.c (.p (.o (.int .u8 0)))), none, 0⟩,
    ⟨(some 132), .eq .bool false (.t 129) (.t 131), none, 0⟩,
    ⟨(some 133), .mv (.t 132), none, 0⟩,
    ⟨(some 134), .call 35 [] 0, (some (133, true)), 0⟩,
    ⟨(some 135), .pick (.t 133) (.t 134) (.c (.p (.o (.bool false)))), none, 0⟩,
    ⟨(some 8), .mv (.t 135), none, 0⟩] 0 none) .ret)))))))))))))),
  [.tmp 8], 136, [0, 1, 2, 3, 4, 5, 8, 9, 10, 11, 12, 13, 14, 15, 17]⟩
theorem ok_law16_TcpBack : cFn Try.prog eqsT newsT vf_law16_TcpBack.keep Try.f11 = some vf_law16_TcpBack := by kernel_rfl
theorem own16 (x p y q sq ac fl wi ur ms sc : Int) (d : ByteArray) (hx : 0 ≤ x ∧ x ≤ 4294967295) (hp : 0 ≤ p ∧ p ≤ 65535) (hy : 0 ≤ y ∧ y ≤ 4294967295) (hq : 0 ≤ q ∧ q ≤ 65535) (hsq : 0 ≤ sq ∧ sq ≤ 4294967295) (hac : 0 ≤ ac ∧ ac ≤ 4294967295) (hfl : 0 ≤ fl ∧ fl ≤ 255) (hwi : 0 ≤ wi ∧ wi ≤ 65535) (hur : 0 ≤ ur ∧ ur ≤ 65535) (hms : 0 ≤ ms ∧ ms ≤ 65535) (hsc : -9223372036854775808 ≤ sc ∧ sc ≤ 9223372036854775807) (hm : may fl ms sc = true) : dec16e x y (raw16 x p y q sq ac fl wi ur (opts ms sc) d) = 0 ∧ dec16 x y (raw16 x p y q sq ac fl wi ur (opts ms sc) d) = seg x p y q sq ac fl wi ur ms sc d := by
  have hmb := may_bd hm
  have hos := opts_size ms sc
  have ho4 : (opts ms sc).size % 4 = 0 := by unfold opts; split <;> split <;> simp [ByteArray.size_append, size_lit, Sp.ofB_size]
  have h := dec_raw (x := x) (y := y) (Rm := ms) (Rs := sc) (says16 x p y q sq ac fl wi ur (opts ms sc) d hp hq hsq hac hfl hwi hur (by omega) ho4) (right_raw ..) ⟨hfl.1, hmb.1⟩ (optS_opts ms sc hms hmb.2)
  refine ⟨h.1, h.2.trans ?_⟩
  have e : flag fl 2 = true ∨ (ms = 0 ∧ sc = -1) := by simp only [may, Bool.and_eq_true, Bool.or_eq_true, decide_eq_true_eq, beq_iff_eq] at hm; exact hm.2.1
  rcases e with e | ⟨rfl, rfl⟩
  · rw [if_pos e, if_pos e]
  · split <;> rfl
theorem raw_same (x p y q sq ac fl wi ur ms sc : Int) (d : ByteArray) (p1 q1 sq1 ac1 fl1 wi1 ur1 ms1 sc1 : Int) (d1 : ByteArray) (hx : 0 ≤ x ∧ x ≤ 4294967295) (hp : 0 ≤ p ∧ p ≤ 65535) (hy : 0 ≤ y ∧ y ≤ 4294967295) (hq : 0 ≤ q ∧ q ≤ 65535) (hsq : 0 ≤ sq ∧ sq ≤ 4294967295) (hac : 0 ≤ ac ∧ ac ≤ 4294967295) (hfl : 0 ≤ fl ∧ fl ≤ 255) (hwi : 0 ≤ wi ∧ wi ≤ 65535) (hur : 0 ≤ ur ∧ ur ≤ 65535) (hms : 0 ≤ ms ∧ ms ≤ 65535) (hsc : -9223372036854775808 ≤ sc ∧ sc ≤ 9223372036854775807) (hp1 : 0 ≤ p1 ∧ p1 ≤ 65535) (hq1 : 0 ≤ q1 ∧ q1 ≤ 65535) (hsq1 : 0 ≤ sq1 ∧ sq1 ≤ 4294967295) (hac1 : 0 ≤ ac1 ∧ ac1 ≤ 4294967295) (hfl1 : 0 ≤ fl1 ∧ fl1 ≤ 255) (hwi1 : 0 ≤ wi1 ∧ wi1 ≤ 65535) (hur1 : 0 ≤ ur1 ∧ ur1 ≤ 65535) (hms1 : 0 ≤ ms1 ∧ ms1 ≤ 65535) (hsc1 : -9223372036854775808 ≤ sc1 ∧ sc1 ≤ 9223372036854775807) (hm : may fl ms sc = true) (hm1 : may fl1 ms1 sc1 = true) :
    ((raw16 x p y q sq ac fl wi ur (opts ms sc) d).toList == (raw16 x p1 y q1 sq1 ac1 fl1 wi1 ur1 (opts ms1 sc1) d1).toList) = ((x == x) && ((p == p1) && ((y == y) && ((q == q1) && ((sq == sq1) && ((ac == ac1) && ((fl == fl1) && ((wi == wi1) && ((ur == ur1) && ((ms == ms1) && ((sc == sc1) && ((d.toList == d1.toList) && true)))))))))))) := by
  have h := (own16 x p y q sq ac fl wi ur ms sc d hx hp hy hq hsq hac hfl hwi hur hms hsc hm).2
  have h1 := (own16 x p1 y q1 sq1 ac1 fl1 wi1 ur1 ms1 sc1 d1 hx hp1 hy hq1 hsq1 hac1 hfl1 hwi1 hur1 hms1 hsc1 hm1).2
  rw [Bool.eq_iff_iff]
  simp only [Bool.and_eq_true, beq_iff_eq, and_true, true_and, ByteArray.toList_eq]
  constructor
  · intro e
    have e' := ba_ext e
    rw [e', h1] at h
    simp only [seg, List.cons.injEq, SV.int.injEq, SV.str.injEq, and_true, true_and] at h
    obtain ⟨h_p, h_q, h_sq, h_ac, h_fl, h_wi, h_ur, h_ms, h_sc, h_d⟩ := h
    subst h_p h_q h_sq h_ac h_fl h_wi h_ur h_ms h_sc h_d
    simp
  · rintro ⟨rfl, rfl, rfl, rfl, rfl, rfl, rfl, rfl, rfl, e⟩
    rw [ba_ext e]
theorem bt_setB' (s : ByteArray) (k : Nat) (v : Int) (hv : 0 ≤ v ∧ v ≤ 255) (hk : k < s.size) (i : Nat) : Sp.bt (setB s k v) i = if i = k then v else Sp.bt s i := by
  unfold Sp.bt setB
  simp only [List.toList_toArray, List.getD_eq_getElem?_getD, List.getElem?_set]
  by_cases h : i = k
  · subst h
    rw [if_pos rfl, if_pos rfl, if_pos (by simpa using hk)]
    simp; omega
  · rw [if_neg (fun e => h e.symm), if_neg h]
theorem setB_same (s : ByteArray) (k : Nat) (hk : k < s.size) : setB s k (bAt s k) = s := by
  apply ba_ext
  unfold setB bAt
  have hk' : k < s.data.toList.length := by simpa using hk
  rw [List.getElem?_eq_getElem hk', Option.getD_some]
  have e : UInt8.ofNat ((s.data.toList[k].toNat : Int)).toNat = s.data.toList[k] := by simp
  rw [e, List.set_getElem_self]
theorem bt_front (H s t : ByteArray) (k : Nat) (v : Int) (h : ∀ i, Sp.bt t i = if i = k then v else Sp.bt s i) (i : Nat) : Sp.bt (H ++ t) i = if i = H.size + k then v else Sp.bt (H ++ s) i := by
  by_cases c : i < H.size
  · rw [Sp.bt_append_left _ _ _ c, Sp.bt_append_left _ _ _ c, if_neg (by omega)]
  · obtain ⟨j, rfl⟩ : ∃ j, i = H.size + j := ⟨i - H.size, by omega⟩
    rw [Sp.bt_append_right, Sp.bt_append_right, h j]
    by_cases e : j = k
    · rw [if_pos e, if_pos (by omega)]
    · rw [if_neg e, if_neg (by omega)]
theorem told16 (x y at_ by_ : Int) (T : ByteArray) (hT : Sp.sumB (Sp.headB x y 6 T.size ++ T) = 65535) (hE : dec16e x y T = 0) (ha : 0 ≤ at_) (hz : 0 < T.size) (hb : 0 ≤ by_ ∧ by_ ≤ 255) : (dec16e x y (setB T (0 + (at_.tmod T.size).toNat * 1) (((BitVec.ofInt IntKind.u8.bits (bAt T (0 + (at_.tmod T.size).toNat * 1)) ^^^ BitVec.ofInt IntKind.u8.bits by_).toNat : Nat) : Int)) == 0) = (by_ == 0) := by
  have hk : 0 ≤ at_.tmod T.size ∧ at_.tmod T.size < T.size := ⟨Int.tmod_nonneg _ ha, Int.tmod_lt_of_pos _ (by omega)⟩
  have hKK : (0 + (at_.tmod T.size).toNat * 1) = (at_.tmod T.size).toNat := by omega
  rw [hKK]
  obtain ⟨k, hk'⟩ : ∃ k : Nat, (at_.tmod T.size).toNat = k := ⟨_, rfl⟩
  rw [hk']
  generalize hv : (((BitVec.ofInt IntKind.u8.bits (bAt T k) ^^^ BitVec.ofInt IntKind.u8.bits by_).toNat : Nat) : Int) = v
  have hvb : 0 ≤ v ∧ v ≤ 255 := hv ▸ bv8_bd _
  have hbt := bAt_bd T k
  have hsame : v = bAt T k ↔ by_ = 0 := hv ▸ bxor_same _ _ _ hbt.1 (show _ < (256 : Int) by omega) hb.1 (show _ < (256 : Int) by omega)
  by_cases h0 : by_ = 0
  · rw [hsame.2 h0, setB_same _ _ (by omega), hE, h0]
  · rw [beq_false_of_ne h0, beq_false_of_ne (fun e => h0 (hsame.1 ?_))]
    have hr := dec_right e
    unfold right16 at hr
    rw [beq_iff_eq, setB_size] at hr
    have := Sp.sum_told (Sp.headB x y 6 T.size ++ T) (Sp.headB x y 6 T.size ++ setB T k v) (12 + k) v
      (fun i => by have := bt_front (Sp.headB x y 6 T.size) T (setB T k v) k v (bt_setB' T k v hvb (by omega)) i; rwa [Sp.headB_size] at this)
      (by rw [ByteArray.size_append, Sp.headB_size]; omega) (by rw [ByteArray.size_append, ByteArray.size_append, setB_size]) ⟨hvb.1, by omega⟩ hT hr
    rw [this]
    have e2 := Sp.bt_append_right (Sp.headB x y 6 T.size) T k
    rw [Sp.headB_size] at e2
    rw [e2, bAt_bt]
set_option maxHeartbeats 2000000 in
theorem back_no (x p y q sq ac fl wi ur ms sc : Int) (d : ByteArray) (x1 p1 y1 q1 sq1 ac1 fl1 wi1 ur1 ms1 sc1 : Int) (d1 T T1 : ByteArray) (at_ by_ e1 : Int) (hd : (d.size : Int) ≤ 4096) (hd1 : (d1.size : Int) ≤ 4096)
    (E : Det Try.prog 36 [.a (seg x p y q sq ac fl wi ur ms sc d)] [] (.t [.o (.str T), .o (.int .i64 2)]) []) (E1 : Det Try.prog 36 [.a (seg x p1 y q1 sq1 ac1 fl1 wi1 ur1 ms1 sc1 d1)] [] (.t [.o (.str T1), .o (.int .i64 e1)]) []) (M : Det Try.prog 42 [.a (seg x p y q sq ac fl wi ur ms sc d)] [] (vB false) []) : Can Try.prog 11 [.a (seg x p y q sq ac fl wi ur ms sc d), .a (seg x1 p1 y1 q1 sq1 ac1 fl1 wi1 ur1 ms1 sc1 d1), .o (.int .u16 at_), .o (.int .u8 by_)] [] (fun v _ => v = vB true) := by
  refine can_of_W known mix Try.func11 (by kernel_rfl) ok_law16_TcpBack (Nat.le_of_ble_eq_true rfl) ?_
  repeat' ((conv => whnf); first
    | ((with_reducible refine Look.mk ?_); refine ⟨_, rfl, ?_⟩)
    | ((with_reducible refine LookN.zeros ?_))
    | ((with_reducible refine LookN.bytes ?_ ?_); (simp; done))
    | ((with_reducible refine BytesW.bytes ?_))
    | ((with_reducible refine Look.byte ?_ ?_); omega)
    | ((with_reducible refine Look.setb ?_ ?_ ?_); exact bv8_bd _; omega)
    | ((with_reducible refine LookN.setb ?_ ?_ ?_); exact bv8_bd _; omega)
    | ((with_reducible refine LookN.mk ?_); refine ⟨_, rfl, ?_⟩)
    | ((with_reducible refine Need.mk ?_ ?_); first | ((with_reducible refine needB ?_); kernel_rfl) | exact rfl | trivial | omega | exact Nat.le_of_ble_eq_true rfl | (exact ⟨rfl, by omega⟩) | (intro h; first | rfl | cases h) | (simp only [lenS_text, lenS_setN, lenS_zeros]; omega) | (simp only [ByteArray.size_append, size_lit, List.size_toArray, List.length_cons, List.length_nil, Sp.ofB_size, Sp.headB_size]; omega))
    | ((with_reducible refine BytesW.mk ?_); refine ⟨_, rfl, ?_⟩)
    | (with_reducible refine CallW.det (E) ?_)
    | (with_reducible refine CallW.det (E1) ?_)
    | (with_reducible refine CallW.det (M) ?_)
    | (with_reducible refine CallW.det (alive_det) ?_)
    | ((with_reducible refine Test.empty (fun h => ?_) (fun h => ?_)))
    | (with_reducible refine Test.tt ?_)
    | (with_reducible refine Test.ff ?_)
    | ((with_reducible refine Test.dt ?_ ?_); omega)
    | ((with_reducible refine Test.df ?_ ?_); omega)
    | (with_reducible refine Test.d (fun h => ?_) (fun h => ?_))
    | ((with_reducible refine Test.ieT ?_ ?_); omega)
    | ((with_reducible refine Test.ieF ?_ ?_); omega)
    | ((with_reducible refine Test.neT ?_ ?_); omega)
    | ((with_reducible refine Test.neF ?_ ?_); omega)
    | (with_reducible refine Test.ie (fun h => ?_) (fun h => ?_))
    | (with_reducible refine Test.ne (fun h => ?_) (fun h => ?_))
    | ((with_reducible refine Test.b ?_ ?_); (focus first | assumption | (simp [negB]; done) | exact rfl))
    | ((with_reducible refine Test.nb ?_ ?_); (focus first | assumption | (simp [negB]; done) | exact rfl))
    | (with_reducible refine Test.mk (fun h => ?_) (fun h => ?_))
    | (with_reducible refine Arith.bv8 ?_)
    | (with_reducible refine Arith.bv16 ?_)
    | (with_reducible refine Arith.bv32 ?_)
    | (with_reducible refine Arith.bv64 ?_)
    | ((with_reducible refine Arith.i64 ?_ ?_); omega)
    | ((with_reducible refine Arith.u64 ?_ ?_); omega)
    | ((with_reducible refine Arith.u32 ?_ ?_); omega)
    | ((with_reducible refine Arith.u16 ?_ ?_); omega)
    | ((with_reducible refine Arith.u8 ?_ ?_); omega)
    | ((with_reducible refine Arith.i32 ?_ ?_); omega)
    | ((with_reducible refine Arith.i64 ?_ ?_); simp (discharger := omega) only [Int.tdiv_eq_ediv_of_nonneg, shr_u8_4, shl_u8_4, shr_u16_4, shl_u16_4, shr_u16_8, shl_u16_8, shr_u32_4, shl_u32_4, shr_u32_8, shl_u32_8, shr_u32_16, shl_u32_16, shr_u32_24, shl_u32_24, shr_u64_4, shl_u64_4, shr_u64_8, shl_u64_8, shr_u64_16, shl_u64_16, shr_u64_24, shl_u64_24, shr_u64_40, shl_u64_40, shr_i64_4, shl_i64_4, shr_i64_8, shl_i64_8, shr_i64_16, shl_i64_16, shr_i64_24, shl_i64_24, shr_i64_40, shl_i64_40]; omega)
    | ((with_reducible refine Arith.u64 ?_ ?_); simp (discharger := omega) only [Int.tdiv_eq_ediv_of_nonneg, shr_u8_4, shl_u8_4, shr_u16_4, shl_u16_4, shr_u16_8, shl_u16_8, shr_u32_4, shl_u32_4, shr_u32_8, shl_u32_8, shr_u32_16, shl_u32_16, shr_u32_24, shl_u32_24, shr_u64_4, shl_u64_4, shr_u64_8, shl_u64_8, shr_u64_16, shl_u64_16, shr_u64_24, shl_u64_24, shr_u64_40, shl_u64_40, shr_i64_4, shl_i64_4, shr_i64_8, shl_i64_8, shr_i64_16, shl_i64_16, shr_i64_24, shl_i64_24, shr_i64_40, shl_i64_40]; omega)
    | ((with_reducible refine Arith.u32 ?_ ?_); simp (discharger := omega) only [Int.tdiv_eq_ediv_of_nonneg, shr_u8_4, shl_u8_4, shr_u16_4, shl_u16_4, shr_u16_8, shl_u16_8, shr_u32_4, shl_u32_4, shr_u32_8, shl_u32_8, shr_u32_16, shl_u32_16, shr_u32_24, shl_u32_24, shr_u64_4, shl_u64_4, shr_u64_8, shl_u64_8, shr_u64_16, shl_u64_16, shr_u64_24, shl_u64_24, shr_u64_40, shl_u64_40, shr_i64_4, shl_i64_4, shr_i64_8, shl_i64_8, shr_i64_16, shl_i64_16, shr_i64_24, shl_i64_24, shr_i64_40, shl_i64_40]; omega)
    | ((with_reducible refine Arith.u16 ?_ ?_); simp (discharger := omega) only [Int.tdiv_eq_ediv_of_nonneg, shr_u8_4, shl_u8_4, shr_u16_4, shl_u16_4, shr_u16_8, shl_u16_8, shr_u32_4, shl_u32_4, shr_u32_8, shl_u32_8, shr_u32_16, shl_u32_16, shr_u32_24, shl_u32_24, shr_u64_4, shl_u64_4, shr_u64_8, shl_u64_8, shr_u64_16, shl_u64_16, shr_u64_24, shl_u64_24, shr_u64_40, shl_u64_40, shr_i64_4, shl_i64_4, shr_i64_8, shl_i64_8, shr_i64_16, shl_i64_16, shr_i64_24, shl_i64_24, shr_i64_40, shl_i64_40]; omega)
    | ((with_reducible refine Arith.u8 ?_ ?_); simp (discharger := omega) only [Int.tdiv_eq_ediv_of_nonneg, shr_u8_4, shl_u8_4, shr_u16_4, shl_u16_4, shr_u16_8, shl_u16_8, shr_u32_4, shl_u32_4, shr_u32_8, shl_u32_8, shr_u32_16, shl_u32_16, shr_u32_24, shl_u32_24, shr_u64_4, shl_u64_4, shr_u64_8, shl_u64_8, shr_u64_16, shl_u64_16, shr_u64_24, shl_u64_24, shr_u64_40, shl_u64_40, shr_i64_4, shl_i64_4, shr_i64_8, shl_i64_8, shr_i64_16, shl_i64_16, shr_i64_24, shl_i64_24, shr_i64_40, shl_i64_40]; omega)
    | (with_reducible refine Arith.mk ?_)
    | (with_reducible refine Ends.mk ?_))
  all_goals rfl
set_option maxHeartbeats 4000000 in
theorem back_yes (x p y q sq ac fl wi ur ms sc : Int) (d : ByteArray) (x1 p1 y1 q1 sq1 ac1 fl1 wi1 ur1 ms1 sc1 : Int) (d1 T T1 : ByteArray) (at_ by_ e1 : Int) (x3 p3 y3 q3 sq3 ac3 fl3 wi3 ur3 ms3 sc3 : Int) (d3 : ByteArray) (de : Int) (hd : (d.size : Int) ≤ 4096) (hd1 : (d1.size : Int) ≤ 4096) (hz : 20 ≤ T.size) (hz1 : T.size ≤ 100000) (ha : 0 ≤ at_ ∧ at_ ≤ 65535)
    (E : Det Try.prog 36 [.a (seg x p y q sq ac fl wi ur ms sc d)] [] (.t [.o (.str T), .o (.int .i64 0)]) []) (E1 : Det Try.prog 36 [.a (seg x p1 y q1 sq1 ac1 fl1 wi1 ur1 ms1 sc1 d1)] [] (.t [.o (.str T1), .o (.int .i64 e1)]) []) (D : Det Try.prog 38 [.o (.int .u32 x), .o (.int .u32 y), .o (.str T)] [] (.t [.a (seg x p y q sq ac fl wi ur ms sc d), .o (.int .i64 0)]) []) (D3 : Det Try.prog 38 [.o (.int .u32 x), .o (.int .u32 y), .o (.str (setB T (0 + (at_.tmod T.size).toNat * 1) (((BitVec.ofInt IntKind.u8.bits (bAt T (0 + (at_.tmod T.size).toNat * 1)) ^^^ BitVec.ofInt IntKind.u8.bits by_).toNat : Nat) : Int)))] [] (.t [.a (seg x3 p3 y3 q3 sq3 ac3 fl3 wi3 ur3 ms3 sc3 d3), .o (.int .i64 de)]) []) (hq0 : e1 = 0 → (T.toList == T1.toList) = ((x == x) && ((p == p1) && ((y == y) && ((q == q1) && ((sq == sq1) && ((ac == ac1) && ((fl == fl1) && ((wi == wi1) && ((ur == ur1) && ((ms == ms1) && ((sc == sc1) && ((d.toList == d1.toList) && true))))))))))))) (told : (de == 0) = (by_ == 0)) : Can Try.prog 11 [.a (seg x p y q sq ac fl wi ur ms sc d), .a (seg x1 p1 y1 q1 sq1 ac1 fl1 wi1 ur1 ms1 sc1 d1), .o (.int .u16 at_), .o (.int .u8 by_)] [] (fun v _ => v = vB true) := by
  have hk : 0 ≤ at_.tmod T.size ∧ at_.tmod T.size < T.size := ⟨Int.tmod_nonneg _ ha.1, Int.tmod_lt_of_pos _ (by omega)⟩
  refine can_of_W known mix Try.func11 (by kernel_rfl) ok_law16_TcpBack (Nat.le_of_ble_eq_true rfl) ?_
  repeat' ((conv => whnf); first
    | ((with_reducible refine Look.mk ?_); refine ⟨_, rfl, ?_⟩)
    | ((with_reducible refine LookN.zeros ?_))
    | ((with_reducible refine LookN.bytes ?_ ?_); (simp; done))
    | ((with_reducible refine BytesW.bytes ?_))
    | ((with_reducible refine Look.byte ?_ ?_); omega)
    | ((with_reducible refine Look.setb ?_ ?_ ?_); exact bv8_bd _; omega)
    | ((with_reducible refine LookN.setb ?_ ?_ ?_); exact bv8_bd _; omega)
    | ((with_reducible refine LookN.mk ?_); refine ⟨_, rfl, ?_⟩)
    | ((with_reducible refine Need.mk ?_ ?_); first | ((with_reducible refine needB ?_); kernel_rfl) | exact rfl | trivial | omega | exact Nat.le_of_ble_eq_true rfl | (exact ⟨rfl, by omega⟩) | (intro h; first | rfl | cases h) | (simp only [lenS_text, lenS_setN, lenS_zeros]; omega) | (simp only [ByteArray.size_append, size_lit, List.size_toArray, List.length_cons, List.length_nil, Sp.ofB_size, Sp.headB_size]; omega))
    | ((with_reducible refine BytesW.mk ?_); refine ⟨_, rfl, ?_⟩)
    | (with_reducible refine CallW.det (E) ?_)
    | (with_reducible refine CallW.det (E1) ?_)
    | (with_reducible refine CallW.det (D) ?_)
    | (with_reducible refine CallW.det (D3) ?_)
    | (with_reducible refine CallW.det (alive_det) ?_)
    | ((with_reducible refine Test.empty (fun h => ?_) (fun h => ?_)))
    | (with_reducible refine Test.tt ?_)
    | (with_reducible refine Test.ff ?_)
    | ((with_reducible refine Test.dt ?_ ?_); omega)
    | ((with_reducible refine Test.df ?_ ?_); omega)
    | (with_reducible refine Test.d (fun h => ?_) (fun h => ?_))
    | ((with_reducible refine Test.ieT ?_ ?_); omega)
    | ((with_reducible refine Test.ieF ?_ ?_); omega)
    | ((with_reducible refine Test.neT ?_ ?_); omega)
    | ((with_reducible refine Test.neF ?_ ?_); omega)
    | (with_reducible refine Test.ie (fun h => ?_) (fun h => ?_))
    | (with_reducible refine Test.ne (fun h => ?_) (fun h => ?_))
    | ((with_reducible refine Test.b ?_ ?_); (focus first | assumption | (simp [negB]; done) | exact rfl | (rw [told]; simp [negB]; done) | (rw [hq0 (by assumption)]; simp [negB]; done)))
    | ((with_reducible refine Test.nb ?_ ?_); (focus first | assumption | (simp [negB]; done) | exact rfl | (rw [told]; simp [negB]; done) | (rw [hq0 (by assumption)]; simp [negB]; done)))
    | (with_reducible refine Test.mk (fun h => ?_) (fun h => ?_))
    | (with_reducible refine Arith.bv8 ?_)
    | (with_reducible refine Arith.bv16 ?_)
    | (with_reducible refine Arith.bv32 ?_)
    | (with_reducible refine Arith.bv64 ?_)
    | ((with_reducible refine Arith.i64 ?_ ?_); omega)
    | ((with_reducible refine Arith.u64 ?_ ?_); omega)
    | ((with_reducible refine Arith.u32 ?_ ?_); omega)
    | ((with_reducible refine Arith.u16 ?_ ?_); omega)
    | ((with_reducible refine Arith.u8 ?_ ?_); omega)
    | ((with_reducible refine Arith.i32 ?_ ?_); omega)
    | ((with_reducible refine Arith.i64 ?_ ?_); simp (discharger := omega) only [Int.tdiv_eq_ediv_of_nonneg, shr_u8_4, shl_u8_4, shr_u16_4, shl_u16_4, shr_u16_8, shl_u16_8, shr_u32_4, shl_u32_4, shr_u32_8, shl_u32_8, shr_u32_16, shl_u32_16, shr_u32_24, shl_u32_24, shr_u64_4, shl_u64_4, shr_u64_8, shl_u64_8, shr_u64_16, shl_u64_16, shr_u64_24, shl_u64_24, shr_u64_40, shl_u64_40, shr_i64_4, shl_i64_4, shr_i64_8, shl_i64_8, shr_i64_16, shl_i64_16, shr_i64_24, shl_i64_24, shr_i64_40, shl_i64_40]; omega)
    | ((with_reducible refine Arith.u64 ?_ ?_); simp (discharger := omega) only [Int.tdiv_eq_ediv_of_nonneg, shr_u8_4, shl_u8_4, shr_u16_4, shl_u16_4, shr_u16_8, shl_u16_8, shr_u32_4, shl_u32_4, shr_u32_8, shl_u32_8, shr_u32_16, shl_u32_16, shr_u32_24, shl_u32_24, shr_u64_4, shl_u64_4, shr_u64_8, shl_u64_8, shr_u64_16, shl_u64_16, shr_u64_24, shl_u64_24, shr_u64_40, shl_u64_40, shr_i64_4, shl_i64_4, shr_i64_8, shl_i64_8, shr_i64_16, shl_i64_16, shr_i64_24, shl_i64_24, shr_i64_40, shl_i64_40]; omega)
    | ((with_reducible refine Arith.u32 ?_ ?_); simp (discharger := omega) only [Int.tdiv_eq_ediv_of_nonneg, shr_u8_4, shl_u8_4, shr_u16_4, shl_u16_4, shr_u16_8, shl_u16_8, shr_u32_4, shl_u32_4, shr_u32_8, shl_u32_8, shr_u32_16, shl_u32_16, shr_u32_24, shl_u32_24, shr_u64_4, shl_u64_4, shr_u64_8, shl_u64_8, shr_u64_16, shl_u64_16, shr_u64_24, shl_u64_24, shr_u64_40, shl_u64_40, shr_i64_4, shl_i64_4, shr_i64_8, shl_i64_8, shr_i64_16, shl_i64_16, shr_i64_24, shl_i64_24, shr_i64_40, shl_i64_40]; omega)
    | ((with_reducible refine Arith.u16 ?_ ?_); simp (discharger := omega) only [Int.tdiv_eq_ediv_of_nonneg, shr_u8_4, shl_u8_4, shr_u16_4, shl_u16_4, shr_u16_8, shl_u16_8, shr_u32_4, shl_u32_4, shr_u32_8, shl_u32_8, shr_u32_16, shl_u32_16, shr_u32_24, shl_u32_24, shr_u64_4, shl_u64_4, shr_u64_8, shl_u64_8, shr_u64_16, shl_u64_16, shr_u64_24, shl_u64_24, shr_u64_40, shl_u64_40, shr_i64_4, shl_i64_4, shr_i64_8, shl_i64_8, shr_i64_16, shl_i64_16, shr_i64_24, shl_i64_24, shr_i64_40, shl_i64_40]; omega)
    | ((with_reducible refine Arith.u8 ?_ ?_); simp (discharger := omega) only [Int.tdiv_eq_ediv_of_nonneg, shr_u8_4, shl_u8_4, shr_u16_4, shl_u16_4, shr_u16_8, shl_u16_8, shr_u32_4, shl_u32_4, shr_u32_8, shl_u32_8, shr_u32_16, shl_u32_16, shr_u32_24, shl_u32_24, shr_u64_4, shl_u64_4, shr_u64_8, shl_u64_8, shr_u64_16, shl_u64_16, shr_u64_24, shl_u64_24, shr_u64_40, shl_u64_40, shr_i64_4, shl_i64_4, shr_i64_8, shl_i64_8, shr_i64_16, shl_i64_16, shr_i64_24, shl_i64_24, shr_i64_40, shl_i64_40]; omega)
    | (with_reducible refine Arith.mk ?_)
    | (with_reducible refine Ends.mk ?_))
  all_goals rfl
theorem back_far (x p y q sq ac fl wi ur ms sc : Int) (d : ByteArray) (x1 p1 y1 q1 sq1 ac1 fl1 wi1 ur1 ms1 sc1 : Int) (d1 : ByteArray) (at_ by_ : Int) (h : ¬ ((d.size : Int) ≤ 4096 ∧ (d1.size : Int) ≤ 4096)) : Can Try.prog 11 [.a (seg x p y q sq ac fl wi ur ms sc d), .a (seg x1 p1 y1 q1 sq1 ac1 fl1 wi1 ur1 ms1 sc1 d1), .o (.int .u16 at_), .o (.int .u8 by_)] [] (fun v _ => v = vB true) := by
  by_cases h1 : (d.size : Int) ≤ 4096
  · refine can_of_W known mix Try.func11 (by kernel_rfl) ok_law16_TcpBack (Nat.le_of_ble_eq_true rfl) ?_
    repeat' ((conv => whnf); first
    | ((with_reducible refine Look.mk ?_); refine ⟨_, rfl, ?_⟩)
    | ((with_reducible refine LookN.zeros ?_))
    | ((with_reducible refine LookN.bytes ?_ ?_); (simp; done))
    | ((with_reducible refine BytesW.bytes ?_))
    | ((with_reducible refine Look.byte ?_ ?_); omega)
    | ((with_reducible refine Look.setb ?_ ?_ ?_); exact bv8_bd _; omega)
    | ((with_reducible refine LookN.setb ?_ ?_ ?_); exact bv8_bd _; omega)
    | ((with_reducible refine LookN.mk ?_); refine ⟨_, rfl, ?_⟩)
    | ((with_reducible refine Need.mk ?_ ?_); first | ((with_reducible refine needB ?_); kernel_rfl) | exact rfl | trivial | omega | exact Nat.le_of_ble_eq_true rfl | (exact ⟨rfl, by omega⟩) | (intro h; first | rfl | cases h) | (simp only [lenS_text, lenS_setN, lenS_zeros]; omega) | (simp only [ByteArray.size_append, size_lit, List.size_toArray, List.length_cons, List.length_nil, Sp.ofB_size, Sp.headB_size]; omega))
    | ((with_reducible refine BytesW.mk ?_); refine ⟨_, rfl, ?_⟩)
    | (with_reducible refine CallW.det (alive_det) ?_)
    | ((with_reducible refine Test.empty (fun h => ?_) (fun h => ?_)))
    | (with_reducible refine Test.tt ?_)
    | (with_reducible refine Test.ff ?_)
    | ((with_reducible refine Test.dt ?_ ?_); omega)
    | ((with_reducible refine Test.df ?_ ?_); omega)
    | (with_reducible refine Test.d (fun h => ?_) (fun h => ?_))
    | ((with_reducible refine Test.ieT ?_ ?_); omega)
    | ((with_reducible refine Test.ieF ?_ ?_); omega)
    | ((with_reducible refine Test.neT ?_ ?_); omega)
    | ((with_reducible refine Test.neF ?_ ?_); omega)
    | (with_reducible refine Test.ie (fun h => ?_) (fun h => ?_))
    | (with_reducible refine Test.ne (fun h => ?_) (fun h => ?_))
    | ((with_reducible refine Test.b ?_ ?_); (focus first | assumption | (simp [negB]; done) | exact rfl))
    | ((with_reducible refine Test.nb ?_ ?_); (focus first | assumption | (simp [negB]; done) | exact rfl))
    | (with_reducible refine Test.mk (fun h => ?_) (fun h => ?_))
    | (with_reducible refine Arith.bv8 ?_)
    | (with_reducible refine Arith.bv16 ?_)
    | (with_reducible refine Arith.bv32 ?_)
    | (with_reducible refine Arith.bv64 ?_)
    | ((with_reducible refine Arith.i64 ?_ ?_); omega)
    | ((with_reducible refine Arith.u64 ?_ ?_); omega)
    | ((with_reducible refine Arith.u32 ?_ ?_); omega)
    | ((with_reducible refine Arith.u16 ?_ ?_); omega)
    | ((with_reducible refine Arith.u8 ?_ ?_); omega)
    | ((with_reducible refine Arith.i32 ?_ ?_); omega)
    | ((with_reducible refine Arith.i64 ?_ ?_); simp (discharger := omega) only [Int.tdiv_eq_ediv_of_nonneg, shr_u8_4, shl_u8_4, shr_u16_4, shl_u16_4, shr_u16_8, shl_u16_8, shr_u32_4, shl_u32_4, shr_u32_8, shl_u32_8, shr_u32_16, shl_u32_16, shr_u32_24, shl_u32_24, shr_u64_4, shl_u64_4, shr_u64_8, shl_u64_8, shr_u64_16, shl_u64_16, shr_u64_24, shl_u64_24, shr_u64_40, shl_u64_40, shr_i64_4, shl_i64_4, shr_i64_8, shl_i64_8, shr_i64_16, shl_i64_16, shr_i64_24, shl_i64_24, shr_i64_40, shl_i64_40]; omega)
    | ((with_reducible refine Arith.u64 ?_ ?_); simp (discharger := omega) only [Int.tdiv_eq_ediv_of_nonneg, shr_u8_4, shl_u8_4, shr_u16_4, shl_u16_4, shr_u16_8, shl_u16_8, shr_u32_4, shl_u32_4, shr_u32_8, shl_u32_8, shr_u32_16, shl_u32_16, shr_u32_24, shl_u32_24, shr_u64_4, shl_u64_4, shr_u64_8, shl_u64_8, shr_u64_16, shl_u64_16, shr_u64_24, shl_u64_24, shr_u64_40, shl_u64_40, shr_i64_4, shl_i64_4, shr_i64_8, shl_i64_8, shr_i64_16, shl_i64_16, shr_i64_24, shl_i64_24, shr_i64_40, shl_i64_40]; omega)
    | ((with_reducible refine Arith.u32 ?_ ?_); simp (discharger := omega) only [Int.tdiv_eq_ediv_of_nonneg, shr_u8_4, shl_u8_4, shr_u16_4, shl_u16_4, shr_u16_8, shl_u16_8, shr_u32_4, shl_u32_4, shr_u32_8, shl_u32_8, shr_u32_16, shl_u32_16, shr_u32_24, shl_u32_24, shr_u64_4, shl_u64_4, shr_u64_8, shl_u64_8, shr_u64_16, shl_u64_16, shr_u64_24, shl_u64_24, shr_u64_40, shl_u64_40, shr_i64_4, shl_i64_4, shr_i64_8, shl_i64_8, shr_i64_16, shl_i64_16, shr_i64_24, shl_i64_24, shr_i64_40, shl_i64_40]; omega)
    | ((with_reducible refine Arith.u16 ?_ ?_); simp (discharger := omega) only [Int.tdiv_eq_ediv_of_nonneg, shr_u8_4, shl_u8_4, shr_u16_4, shl_u16_4, shr_u16_8, shl_u16_8, shr_u32_4, shl_u32_4, shr_u32_8, shl_u32_8, shr_u32_16, shl_u32_16, shr_u32_24, shl_u32_24, shr_u64_4, shl_u64_4, shr_u64_8, shl_u64_8, shr_u64_16, shl_u64_16, shr_u64_24, shl_u64_24, shr_u64_40, shl_u64_40, shr_i64_4, shl_i64_4, shr_i64_8, shl_i64_8, shr_i64_16, shl_i64_16, shr_i64_24, shl_i64_24, shr_i64_40, shl_i64_40]; omega)
    | ((with_reducible refine Arith.u8 ?_ ?_); simp (discharger := omega) only [Int.tdiv_eq_ediv_of_nonneg, shr_u8_4, shl_u8_4, shr_u16_4, shl_u16_4, shr_u16_8, shl_u16_8, shr_u32_4, shl_u32_4, shr_u32_8, shl_u32_8, shr_u32_16, shl_u32_16, shr_u32_24, shl_u32_24, shr_u64_4, shl_u64_4, shr_u64_8, shl_u64_8, shr_u64_16, shl_u64_16, shr_u64_24, shl_u64_24, shr_u64_40, shl_u64_40, shr_i64_4, shl_i64_4, shr_i64_8, shl_i64_8, shr_i64_16, shl_i64_16, shr_i64_24, shl_i64_24, shr_i64_40, shl_i64_40]; omega)
    | (with_reducible refine Arith.mk ?_)
    | (with_reducible refine Ends.mk ?_))
    all_goals rfl
  · refine can_of_W known mix Try.func11 (by kernel_rfl) ok_law16_TcpBack (Nat.le_of_ble_eq_true rfl) ?_
    repeat' ((conv => whnf); first
    | ((with_reducible refine Look.mk ?_); refine ⟨_, rfl, ?_⟩)
    | ((with_reducible refine LookN.zeros ?_))
    | ((with_reducible refine LookN.bytes ?_ ?_); (simp; done))
    | ((with_reducible refine BytesW.bytes ?_))
    | ((with_reducible refine Look.byte ?_ ?_); omega)
    | ((with_reducible refine Look.setb ?_ ?_ ?_); exact bv8_bd _; omega)
    | ((with_reducible refine LookN.setb ?_ ?_ ?_); exact bv8_bd _; omega)
    | ((with_reducible refine LookN.mk ?_); refine ⟨_, rfl, ?_⟩)
    | ((with_reducible refine Need.mk ?_ ?_); first | ((with_reducible refine needB ?_); kernel_rfl) | exact rfl | trivial | omega | exact Nat.le_of_ble_eq_true rfl | (exact ⟨rfl, by omega⟩) | (intro h; first | rfl | cases h) | (simp only [lenS_text, lenS_setN, lenS_zeros]; omega) | (simp only [ByteArray.size_append, size_lit, List.size_toArray, List.length_cons, List.length_nil, Sp.ofB_size, Sp.headB_size]; omega))
    | ((with_reducible refine BytesW.mk ?_); refine ⟨_, rfl, ?_⟩)
    | (with_reducible refine CallW.det (alive_det) ?_)
    | ((with_reducible refine Test.empty (fun h => ?_) (fun h => ?_)))
    | (with_reducible refine Test.tt ?_)
    | (with_reducible refine Test.ff ?_)
    | ((with_reducible refine Test.dt ?_ ?_); omega)
    | ((with_reducible refine Test.df ?_ ?_); omega)
    | (with_reducible refine Test.d (fun h => ?_) (fun h => ?_))
    | ((with_reducible refine Test.ieT ?_ ?_); omega)
    | ((with_reducible refine Test.ieF ?_ ?_); omega)
    | ((with_reducible refine Test.neT ?_ ?_); omega)
    | ((with_reducible refine Test.neF ?_ ?_); omega)
    | (with_reducible refine Test.ie (fun h => ?_) (fun h => ?_))
    | (with_reducible refine Test.ne (fun h => ?_) (fun h => ?_))
    | ((with_reducible refine Test.b ?_ ?_); (focus first | assumption | (simp [negB]; done) | exact rfl))
    | ((with_reducible refine Test.nb ?_ ?_); (focus first | assumption | (simp [negB]; done) | exact rfl))
    | (with_reducible refine Test.mk (fun h => ?_) (fun h => ?_))
    | (with_reducible refine Arith.bv8 ?_)
    | (with_reducible refine Arith.bv16 ?_)
    | (with_reducible refine Arith.bv32 ?_)
    | (with_reducible refine Arith.bv64 ?_)
    | ((with_reducible refine Arith.i64 ?_ ?_); omega)
    | ((with_reducible refine Arith.u64 ?_ ?_); omega)
    | ((with_reducible refine Arith.u32 ?_ ?_); omega)
    | ((with_reducible refine Arith.u16 ?_ ?_); omega)
    | ((with_reducible refine Arith.u8 ?_ ?_); omega)
    | ((with_reducible refine Arith.i32 ?_ ?_); omega)
    | ((with_reducible refine Arith.i64 ?_ ?_); simp (discharger := omega) only [Int.tdiv_eq_ediv_of_nonneg, shr_u8_4, shl_u8_4, shr_u16_4, shl_u16_4, shr_u16_8, shl_u16_8, shr_u32_4, shl_u32_4, shr_u32_8, shl_u32_8, shr_u32_16, shl_u32_16, shr_u32_24, shl_u32_24, shr_u64_4, shl_u64_4, shr_u64_8, shl_u64_8, shr_u64_16, shl_u64_16, shr_u64_24, shl_u64_24, shr_u64_40, shl_u64_40, shr_i64_4, shl_i64_4, shr_i64_8, shl_i64_8, shr_i64_16, shl_i64_16, shr_i64_24, shl_i64_24, shr_i64_40, shl_i64_40]; omega)
    | ((with_reducible refine Arith.u64 ?_ ?_); simp (discharger := omega) only [Int.tdiv_eq_ediv_of_nonneg, shr_u8_4, shl_u8_4, shr_u16_4, shl_u16_4, shr_u16_8, shl_u16_8, shr_u32_4, shl_u32_4, shr_u32_8, shl_u32_8, shr_u32_16, shl_u32_16, shr_u32_24, shl_u32_24, shr_u64_4, shl_u64_4, shr_u64_8, shl_u64_8, shr_u64_16, shl_u64_16, shr_u64_24, shl_u64_24, shr_u64_40, shl_u64_40, shr_i64_4, shl_i64_4, shr_i64_8, shl_i64_8, shr_i64_16, shl_i64_16, shr_i64_24, shl_i64_24, shr_i64_40, shl_i64_40]; omega)
    | ((with_reducible refine Arith.u32 ?_ ?_); simp (discharger := omega) only [Int.tdiv_eq_ediv_of_nonneg, shr_u8_4, shl_u8_4, shr_u16_4, shl_u16_4, shr_u16_8, shl_u16_8, shr_u32_4, shl_u32_4, shr_u32_8, shl_u32_8, shr_u32_16, shl_u32_16, shr_u32_24, shl_u32_24, shr_u64_4, shl_u64_4, shr_u64_8, shl_u64_8, shr_u64_16, shl_u64_16, shr_u64_24, shl_u64_24, shr_u64_40, shl_u64_40, shr_i64_4, shl_i64_4, shr_i64_8, shl_i64_8, shr_i64_16, shl_i64_16, shr_i64_24, shl_i64_24, shr_i64_40, shl_i64_40]; omega)
    | ((with_reducible refine Arith.u16 ?_ ?_); simp (discharger := omega) only [Int.tdiv_eq_ediv_of_nonneg, shr_u8_4, shl_u8_4, shr_u16_4, shl_u16_4, shr_u16_8, shl_u16_8, shr_u32_4, shl_u32_4, shr_u32_8, shl_u32_8, shr_u32_16, shl_u32_16, shr_u32_24, shl_u32_24, shr_u64_4, shl_u64_4, shr_u64_8, shl_u64_8, shr_u64_16, shl_u64_16, shr_u64_24, shl_u64_24, shr_u64_40, shl_u64_40, shr_i64_4, shl_i64_4, shr_i64_8, shl_i64_8, shr_i64_16, shl_i64_16, shr_i64_24, shl_i64_24, shr_i64_40, shl_i64_40]; omega)
    | ((with_reducible refine Arith.u8 ?_ ?_); simp (discharger := omega) only [Int.tdiv_eq_ediv_of_nonneg, shr_u8_4, shl_u8_4, shr_u16_4, shl_u16_4, shr_u16_8, shl_u16_8, shr_u32_4, shl_u32_4, shr_u32_8, shl_u32_8, shr_u32_16, shl_u32_16, shr_u32_24, shl_u32_24, shr_u64_4, shl_u64_4, shr_u64_8, shl_u64_8, shr_u64_16, shl_u64_16, shr_u64_24, shl_u64_24, shr_u64_40, shl_u64_40, shr_i64_4, shl_i64_4, shr_i64_8, shl_i64_8, shr_i64_16, shl_i64_16, shr_i64_24, shl_i64_24, shr_i64_40, shl_i64_40]; omega)
    | (with_reducible refine Arith.mk ?_)
    | (with_reducible refine Ends.mk ?_))
    all_goals rfl
theorem enc16_yes (x p y q sq ac fl wi ur ms sc : Int) (d : ByteArray) (hm : may fl ms sc = true) (hd : (d.size : Int) ≤ 4096) : enc16 x p y q sq ac fl wi ur ms sc d = raw16 x p y q sq ac fl wi ur (opts ms sc) d ∧ enc16e fl ms sc d = 0 := by
  have hos := opts_size ms sc
  unfold enc16 enc16e
  rw [if_pos hm, if_pos hm, if_neg (by omega), if_neg (by omega)]; exact ⟨rfl, rfl⟩
theorem enc16_no (fl ms sc : Int) (d : ByteArray) (hm : may fl ms sc = false) : enc16e fl ms sc d = 2 := by
  unfold enc16e; rw [if_neg (by rw [hm]; simp)]
theorem back_row (x p y q sq ac fl wi ur ms sc : Int) (d : ByteArray) (x1 p1 y1 q1 sq1 ac1 fl1 wi1 ur1 ms1 sc1 : Int) (d1 : ByteArray) (at_ by_ : Int) (w : World) (hx : 0 ≤ x ∧ x ≤ 4294967295) (hp : 0 ≤ p ∧ p ≤ 65535) (hy : 0 ≤ y ∧ y ≤ 4294967295) (hq : 0 ≤ q ∧ q ≤ 65535) (hsq : 0 ≤ sq ∧ sq ≤ 4294967295) (hac : 0 ≤ ac ∧ ac ≤ 4294967295) (hfl : 0 ≤ fl ∧ fl ≤ 255) (hwi : 0 ≤ wi ∧ wi ≤ 65535) (hur : 0 ≤ ur ∧ ur ≤ 65535) (hms : 0 ≤ ms ∧ ms ≤ 65535) (hsc : -9223372036854775808 ≤ sc ∧ sc ≤ 9223372036854775807) (hd : d.size ≤ maxLen) (hx1 : 0 ≤ x1 ∧ x1 ≤ 4294967295) (hp1 : 0 ≤ p1 ∧ p1 ≤ 65535) (hy1 : 0 ≤ y1 ∧ y1 ≤ 4294967295) (hq1 : 0 ≤ q1 ∧ q1 ≤ 65535) (hsq1 : 0 ≤ sq1 ∧ sq1 ≤ 4294967295) (hac1 : 0 ≤ ac1 ∧ ac1 ≤ 4294967295) (hfl1 : 0 ≤ fl1 ∧ fl1 ≤ 255) (hwi1 : 0 ≤ wi1 ∧ wi1 ≤ 65535) (hur1 : 0 ≤ ur1 ∧ ur1 ≤ 65535) (hms1 : 0 ≤ ms1 ∧ ms1 ≤ 65535) (hsc1 : -9223372036854775808 ≤ sc1 ∧ sc1 ≤ 9223372036854775807) (hd1 : d1.size ≤ maxLen) (ha : 0 ≤ at_ ∧ at_ ≤ 65535) (hb : 0 ≤ by_ ∧ by_ ≤ 255) :
    Calls Try.prog 11 #[.agg #[.int .u32 x, .int .u16 p, .int .u32 y, .int .u16 q, .int .u32 sq, .int .u32 ac, .int .u8 fl, .int .u16 wi, .int .u16 ur, .int .u16 ms, .int .i64 sc, .string d], .agg #[.int .u32 x1, .int .u16 p1, .int .u32 y1, .int .u16 q1, .int .u32 sq1, .int .u32 ac1, .int .u8 fl1, .int .u16 wi1, .int .u16 ur1, .int .u16 ms1, .int .i64 sc1, .string d1], .int .u16 at_, .int .u8 by_] w fun e w' => e = .returned (.bool true) ∧ Below w.heap.size w w' := by
  by_cases h : (d.size : Int) ≤ 4096 ∧ (d1.size : Int) ≤ 4096
  · have E := enc_det x p y q sq ac fl wi ur ms sc d hx hp hy hq hsq hac hfl hwi hur hms hsc (by omega)
    have E1 := enc_det x p1 y q1 sq1 ac1 fl1 wi1 ur1 ms1 sc1 d1 hx hp1 hy hq1 hsq1 hac1 hfl1 hwi1 hur1 hms1 hsc1 (by omega)
    have M := may_det x p y q sq ac fl wi ur ms sc d
    cases hm : may fl ms sc with
    | false =>
      rw [enc16_no fl ms sc d hm] at E
      rw [hm] at M
      exact calls_of_can (back_no x p y q sq ac fl wi ur ms sc d x1 p1 y1 q1 sq1 ac1 fl1 wi1 ur1 ms1 sc1 d1 _ _ at_ by_ _ h.1 h.2 E E1 M) rfl rfl w
    | true =>
      have hmb := may_bd hm
      have hos := opts_size ms sc
      obtain ⟨g1, g2⟩ := enc16_yes x p y q sq ac fl wi ur ms sc d hm h.1
      obtain ⟨o1, o2⟩ := own16 x p y q sq ac fl wi ur ms sc d hx hp hy hq hsq hac hfl hwi hur hms hsc hm
      have hz := raw16_size x p y q sq ac fl wi ur (opts ms sc) d
      have hT := raw16_sum x p y q sq ac fl wi ur (opts ms sc) d
      rw [g1, g2] at E
      have hq : enc16e fl1 ms1 sc1 d1 = 0 → ((raw16 x p y q sq ac fl wi ur (opts ms sc) d).toList == (enc16 x p1 y q1 sq1 ac1 fl1 wi1 ur1 ms1 sc1 d1).toList) = ((x == x) && ((p == p1) && ((y == y) && ((q == q1) && ((sq == sq1) && ((ac == ac1) && ((fl == fl1) && ((wi == wi1) && ((ur == ur1) && ((ms == ms1) && ((sc == sc1) && ((d.toList == d1.toList) && true)))))))))))) := fun he => by
        cases hm1 : may fl1 ms1 sc1 with
        | false => rw [enc16_no fl1 ms1 sc1 d1 hm1] at he; cases he
        | true =>
          rw [(enc16_yes x p1 y q1 sq1 ac1 fl1 wi1 ur1 ms1 sc1 d1 hm1 h.2).1]
          exact raw_same x p y q sq ac fl wi ur ms sc d p1 q1 sq1 ac1 fl1 wi1 ur1 ms1 sc1 d1 hx hp hy hq hsq hac hfl hwi hur hms hsc hp1 hq1 hsq1 hac1 hfl1 hwi1 hur1 hms1 hsc1 hm hm1
      generalize raw16 x p y q sq ac fl wi ur (opts ms sc) d = T at *
      have D := tdec_det x y T (by omega) hx hy
      rw [o1, o2] at D
      obtain ⟨x3, p3, y3, q3, sq3, ac3, fl3, wi3, ur3, ms3, sc3, d3, h3⟩ := dec16_form x y (setB T (0 + (at_.tmod T.size).toNat * 1) (((BitVec.ofInt IntKind.u8.bits (bAt T (0 + (at_.tmod T.size).toNat * 1)) ^^^ BitVec.ofInt IntKind.u8.bits by_).toNat : Nat) : Int))
      have D3 := tdec_det x y (setB T (0 + (at_.tmod T.size).toNat * 1) (((BitVec.ofInt IntKind.u8.bits (bAt T (0 + (at_.tmod T.size).toNat * 1)) ^^^ BitVec.ofInt IntKind.u8.bits by_).toNat : Nat) : Int)) (by rw [setB_size]; omega) hx hy
      rw [h3] at D3
      exact calls_of_can (back_yes x p y q sq ac fl wi ur ms sc d x1 p1 y1 q1 sq1 ac1 fl1 wi1 ur1 ms1 sc1 d1 T _ at_ by_ _ x3 p3 y3 q3 sq3 ac3 fl3 wi3 ur3 ms3 sc3 d3 _ h.1 h.2 (by omega) (by omega) ha E E1 D D3 hq (told16 x y at_ by_ T hT o1 ha.1 (by omega) hb)) rfl rfl w
  · exact calls_of_can (back_far x p y q sq ac fl wi ur ms sc d x1 p1 y1 q1 sq1 ac1 fl1 wi1 ur1 ms1 sc1 d1 at_ by_ h) rfl rfl w
end L16
end Go.Proofs.Ytlpeefemffmpmaa.VM
