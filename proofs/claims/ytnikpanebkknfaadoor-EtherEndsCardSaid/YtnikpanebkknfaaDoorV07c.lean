/- law 07 by the evaluator: the text of an address, by definition. -/
import Derived.Test.YtnikpanebkknfaaDoorV07b
import Derived.Test.YtnikpanebkknfaaDoorVBw4
namespace Go.Proofs.YtnikpanebkknfaaDoor.VM
namespace G4
open Go.RowKit
set_option linter.unusedVariables false
set_option linter.unusedSimpArgs false
set_option maxRecDepth 100000
variable {G : Ground}
def vf_ref07_Text : VFn := ⟨(.seq (.reg [
    ⟨(some 2), .mv (.c (.p (.o (.str ⟨#[]⟩)))), none, 0⟩] 0 none) (.seq (.reg [
    ⟨(some 6), .mv (.t 0), none, 0⟩,
    ⟨(some 7), .call 53 [(.t 6), (.c (.p (.o (.int .i64 6))))] 0, none, 0⟩,
    ⟨(some 3), .mv (.t 7), none, 0⟩] 0 none) (.seq (.reg [
    ⟨(some 4), .mv (.c (.p (.o (.str ⟨#[]⟩)))), none, 0⟩] 0 none) (.seq (.seq (.reg [
    ⟨(some 5), .mv (.c (.p (.o (.int .i64 0)))), none, 0⟩] 0 none) (.block 0 (.loop (.seq (.seq (.reg [
    ⟨(some 8), .mv (.t 5), none, 0⟩,
    ⟨(some 9), .mv (.t 3), none, 0⟩,
    ⟨(some 10), .len false (.t 9), none, 0⟩,
    ⟨(some 11), .bin .lss (.t 8) (.t 10), none, 0⟩] 0 none) (.cond (.t 11) .skip (.exit 0))) (.seq (.block 1 (.seq (.seq (.reg [
    ⟨(some 14), .mv (.t 5), none, 0⟩,
    ⟨(some 15), .bin .gtr (.t 14) (.c (.p (.o (.int .i64 0)))), none, 0⟩] 0 none) (.cond (.t 15) (.reg [
    ⟨(some 16), .mv (.t 4), none, 0⟩,
    ⟨(some 17), .bin .add (.t 16) (.c (.p (.o (.str ⟨#[58]⟩)))), none, 0⟩,
    ⟨(some 4), .mv (.t 17), none, 0⟩] 0 none) .skip)) (.reg [
    ⟨(some 18), .mv (.t 4), none, 0⟩,
    ⟨(some 19), .mv (.t 3), none, 0⟩,
    ⟨(some 20), .mv (.t 5), none, 0⟩,
    ⟨(some 21), .ixs (.t 19) (.t 20), none, 0⟩,
    ⟨(some 22), .bin .shr (.t 21) (.c (.p (.o (.int .u64 4)))), none, 0⟩,
    ⟨(some 23), .ixs (.c (.p (.o (.str ⟨#[48, 49, 50, 51, 52, 53, 54, 55, 56, 57, 97, 98, 99, 100, 101, 102]⟩)))) (.t 22), none, 0⟩,
    ⟨(some 24), .mv (.t 3), none, 0⟩,
    ⟨(some 25), .mv (.t 5), none, 0⟩,
    ⟨(some 26), .ixs (.t 24) (.t 25), none, 0⟩,
    ⟨(some 27), .bin .and (.t 26) (.c (.p (.o (.int .u8 15)))), none, 0⟩,
    ⟨(some 28), .ixs (.c (.p (.o (.str ⟨#[48, 49, 50, 51, 52, 53, 54, 55, 56, 57, 97, 98, 99, 100, 101, 102]⟩)))) (.t 27), none, 0⟩,
    ⟨(some 29), .bsl 2 [.int .u8 0, .int .u8 0] [(0, 1, (.t 23)), (1, 1, (.t 28))], none, 0⟩,
    ⟨(some 30), .b2s (.t 29), none, 1⟩,
    ⟨(some 31), .bin .add (.t 18) (.t 30), none, 1⟩,
    ⟨(some 4), .mv (.t 31), none, 1⟩] 1 (some [(0, 1), (0, 2), (1, 2), (0, 3), (0, 4), (0, 5), (0, 6), (1, 6), (2, 6), (3, 6), (4, 6), (5, 6), (0, 7), (1, 7), (2, 7), (3, 7), (4, 7), (5, 7), (6, 7), (0, 8), (1, 8), (2, 8), (3, 8), (4, 8), (5, 8), (0, 9), (1, 9), (2, 9), (3, 9), (4, 9), (5, 9), (0, 10), (1, 10), (2, 10), (3, 10), (4, 10), (5, 10), (0, 11), (0, 12)])))) (.reg [
    ⟨(some 12), .mv (.t 5), none, 0⟩,
    ⟨(some 13), .bin .add (.t 12) (.c (.p (.o (.int .i64 1)))), none, 0⟩,
    ⟨(some 5), .mv (.t 13), none, 0⟩] 0 none)))))) (.seq (.reg [
    ⟨(some 32), .mv (.t 4), none, 0⟩,
    ⟨(some 2), .mv (.t 32), none, 0⟩] 0 none) .ret))))),
  [.tmp 2], 33, [0, 2, 3, 4, 5]⟩
theorem ok_ref07_Text : cFn Tryd.prog eqsT newsT vf_ref07_Text.keep Tryd.f39 = some vf_ref07_Text := by kernel_rfl
theorem bAt_of6 (m : Int) : bAt (Sp.ofB m 6) 0 = m / 1099511627776 % 256 ∧ bAt (Sp.ofB m 6) 1 = m / 4294967296 % 256 ∧ bAt (Sp.ofB m 6) 2 = m / 16777216 % 256 ∧ bAt (Sp.ofB m 6) 3 = m / 65536 % 256 ∧ bAt (Sp.ofB m 6) 4 = m / 256 % 256 ∧ bAt (Sp.ofB m 6) 5 = m % 256 := by
  rw [Sp.ofB_succ, Sp.ofB_succ, Sp.ofB_succ, Sp.ofB_succ, Sp.ofB_succ, Sp.ofB_succ, Sp.ofB_zero]
  refine ⟨?_, ?_, ?_, ?_, ?_, ?_⟩ <;> simp [bAt] <;> omega
theorem hd_fin : ∀ c : _root_.Fin 256, (⟨#[UInt8.ofNat (bAt (⟨#[48, 49, 50, 51, 52, 53, 54, 55, 56, 57, 97, 98, 99, 100, 101, 102]⟩ : ByteArray) ((c.val : Int) / 16).toNat).toNat, UInt8.ofNat (bAt (⟨#[48, 49, 50, 51, 52, 53, 54, 55, 56, 57, 97, 98, 99, 100, 101, 102]⟩ : ByteArray) ((c.val : Int) % 16).toNat).toNat]⟩ : ByteArray) = hx c.val := by decide +kernel
theorem hd_hx {b : Int} (h : 0 ≤ b ∧ b ≤ 255) : (⟨#[UInt8.ofNat (bAt (⟨#[48, 49, 50, 51, 52, 53, 54, 55, 56, 57, 97, 98, 99, 100, 101, 102]⟩ : ByteArray) (b / 16).toNat).toNat, UInt8.ofNat (bAt (⟨#[48, 49, 50, 51, 52, 53, 54, 55, 56, 57, 97, 98, 99, 100, 101, 102]⟩ : ByteArray) (b % 16).toNat).toNat]⟩ : ByteArray) = hx b := by
  obtain ⟨k, rfl⟩ := Int.eq_ofNat_of_zero_le h.1
  exact hd_fin ⟨k, by omega⟩
theorem nil_ba (a : ByteArray) : (⟨#[]⟩ : ByteArray) ++ a = a := by apply ByteArray.ext; apply Array.ext'; simp
set_option maxHeartbeats 4000000 in
theorem rmtext_det (m : Int) (hm : 0 ≤ m ∧ m ≤ 18446744073709551615) : Det G Tryd.prog 39 [.o (.int .u64 m)] [] (vS (macB m)) [] := by
  have sz : (Sp.ofB m 6).size = 6 := Sp.ofB_size m 6
  have b0 := bAt_bd (Sp.ofB m 6) (Int.toNat 0)
  have s0 : (bAt (Sp.ofB m 6) (Int.toNat 0)).fdiv (2 ^ min (Int.toNat 4) IntKind.u8.bits) = bAt (Sp.ofB m 6) (Int.toNat 0) / 16 := shr_u8_4 _
  have b1 := bAt_bd (Sp.ofB m 6) ((0 + 1 : Int).toNat)
  have s1 : (bAt (Sp.ofB m 6) ((0 + 1 : Int).toNat)).fdiv (2 ^ min (Int.toNat 4) IntKind.u8.bits) = bAt (Sp.ofB m 6) ((0 + 1 : Int).toNat) / 16 := shr_u8_4 _
  have b2 := bAt_bd (Sp.ofB m 6) ((0 + 1 + 1 : Int).toNat)
  have s2 : (bAt (Sp.ofB m 6) ((0 + 1 + 1 : Int).toNat)).fdiv (2 ^ min (Int.toNat 4) IntKind.u8.bits) = bAt (Sp.ofB m 6) ((0 + 1 + 1 : Int).toNat) / 16 := shr_u8_4 _
  have b3 := bAt_bd (Sp.ofB m 6) ((0 + 1 + 1 + 1 : Int).toNat)
  have s3 : (bAt (Sp.ofB m 6) ((0 + 1 + 1 + 1 : Int).toNat)).fdiv (2 ^ min (Int.toNat 4) IntKind.u8.bits) = bAt (Sp.ofB m 6) ((0 + 1 + 1 + 1 : Int).toNat) / 16 := shr_u8_4 _
  have b4 := bAt_bd (Sp.ofB m 6) ((0 + 1 + 1 + 1 + 1 : Int).toNat)
  have s4 : (bAt (Sp.ofB m 6) ((0 + 1 + 1 + 1 + 1 : Int).toNat)).fdiv (2 ^ min (Int.toNat 4) IntKind.u8.bits) = bAt (Sp.ofB m 6) ((0 + 1 + 1 + 1 + 1 : Int).toNat) / 16 := shr_u8_4 _
  have b5 := bAt_bd (Sp.ofB m 6) ((0 + 1 + 1 + 1 + 1 + 1 : Int).toNat)
  have s5 : (bAt (Sp.ofB m 6) ((0 + 1 + 1 + 1 + 1 + 1 : Int).toNat)).fdiv (2 ^ min (Int.toNat 4) IntKind.u8.bits) = bAt (Sp.ofB m 6) ((0 + 1 + 1 + 1 + 1 + 1 : Int).toNat) / 16 := shr_u8_4 _
  refine can_of_W known mix Tryd.func39 (by kernel_rfl) ok_ref07_Text (Nat.le_of_ble_eq_true rfl) ?_
  repeat' ((conv => whnf); first
    | ((with_reducible refine Look.mk ?_); refine ⟨_, rfl, ?_⟩)
    | ((with_reducible refine LookN.zeros ?_))
    | ((with_reducible refine LookN.bytes ?_ ?_); (simp; done))
    | ((with_reducible refine BytesW.bytes ?_))
    | ((with_reducible refine Look.byte ?_ ?_); omega)
    | ((with_reducible refine Look.setb ?_ ?_ ?_); exact bv8_bd _; omega)
    | ((with_reducible refine LookN.setb ?_ ?_ ?_); exact bv8_bd _; omega)
    | ((with_reducible refine LookN.mk ?_); refine ⟨_, rfl, ?_⟩)
    | ((with_reducible refine Need.mk ?_ ?_); first | ((with_reducible refine needB ?_); kernel_rfl) | with_reducible rfl | omega | (with_reducible refine ⟨rfl, ?_⟩; focus omega) | (simp only [ByteArray.size_append, size_lit, List.size_toArray, List.length_cons, List.length_nil, Sp.ofB_size, ByteArray.size_extract]; omega) | exact rfl | trivial | exact Nat.le_of_ble_eq_true rfl | (exact ⟨rfl, by omega⟩) | (intro h; first | rfl | cases h) | (simp only [lenS_text, lenS_setN, lenS_zeros]; omega))
    | ((with_reducible refine BytesW.mk ?_); refine ⟨_, rfl, ?_⟩)
    | (with_reducible refine CallW.det (rOf6 _ (by omega)) ?_)
    | ((with_reducible refine WrT.same ?_ ?_); focus (repeat (first | exact trivial | ((conv => whnf); refine ⟨rfl, ?_⟩))))
    | (with_reducible refine WrT.all ?_)
    | ((with_reducible refine Need.mk ?_ ?_); focus (simp only [size_lit, List.size_toArray, List.length_cons, List.length_nil, Sp.ofB_size]; omega))
    | (with_reducible refine LoopW.unroll (fun X hX => ?_))
    | (refine hX _ _ ?_)
    | ((with_reducible refine Test.tmodEqT ?_ ?_ ?_); omega; focus first | omega | assumption)
    | ((with_reducible refine Test.tmodEqF ?_ ?_ ?_); omega; focus first | omega | assumption)
    | ((with_reducible refine Test.tmodNeT ?_ ?_ ?_); omega; focus first | omega | assumption)
    | ((with_reducible refine Test.tmodNeF ?_ ?_ ?_); omega; focus first | omega | assumption)
    | ((with_reducible refine Test.tmodEq ?_ (fun h => ?_) (fun h => ?_)); omega)
    | ((with_reducible refine Test.tmodNe ?_ (fun h => ?_) (fun h => ?_)); omega)
    | ((with_reducible refine Test.notT ?_ ?_); focus assumption)
    | ((with_reducible refine Test.notF ?_ ?_); focus assumption)
    | (with_reducible refine Test.notIe (fun h => ?_) (fun h => ?_))
    | (with_reducible refine Test.notD (fun h => ?_) (fun h => ?_))
    | ((with_reducible refine Test.empty (fun h => ?_) (fun h => ?_)))
    | (with_reducible refine Test.tt ?_)
    | (with_reducible refine Test.ff ?_)
    | ((with_reducible refine Test.dt ?_ ?_); omega)
    | ((with_reducible refine Test.df ?_ ?_); omega)
    | (with_reducible refine Test.d (fun h => ?_) (fun h => ?_))
    | ((with_reducible refine Test.ieT ?_ ?_); omega)
    | ((with_reducible refine Test.ieF ?_ ?_); omega)
    | ((with_reducible refine Test.neT ?_ ?_); omega)
    | ((with_reducible refine Test.neF ?_ ?_); omega)
    | (with_reducible refine Test.ie (fun h => ?_) (fun h => ?_))
    | (with_reducible refine Test.ne (fun h => ?_) (fun h => ?_))
    | ((with_reducible refine Test.b ?_ ?_); (focus first | assumption | (simp [negB]; done) | exact rfl))
    | ((with_reducible refine Test.nb ?_ ?_); (focus first | assumption | (simp [negB]; done) | exact rfl))
    | (with_reducible refine Test.notS (fun h => ?_) (fun h => ?_))
    | (with_reducible refine Test.mk (fun h => ?_) (fun h => ?_))
    | ((with_reducible refine Arith.andu8_15 ?_ ?_); omega)
    | ((with_reducible refine Arith.tdiv ?_ ?_); omega)
    | (with_reducible refine Arith.bv8 ?_)
    | (with_reducible refine Arith.bv16 ?_)
    | (with_reducible refine Arith.bv32 ?_)
    | (with_reducible refine Arith.bv64 ?_)
    | ((with_reducible refine Arith.i64 ?_ ?_); omega)
    | ((with_reducible refine Arith.u64 ?_ ?_); omega)
    | ((with_reducible refine Arith.u32 ?_ ?_); omega)
    | ((with_reducible refine Arith.u16 ?_ ?_); omega)
    | ((with_reducible refine Arith.u8 ?_ ?_); omega)
    | ((with_reducible refine Arith.i32 ?_ ?_); omega)
    | ((with_reducible refine Arith.i64 ?_ ?_); simp (discharger := omega) only [Int.tdiv_eq_ediv_of_nonneg, shr_u8_4, shl_u8_4, shr_u16_4, shl_u16_4, shr_u16_8, shl_u16_8, shr_u32_4, shl_u32_4, shr_u32_8, shl_u32_8, shr_u32_16, shl_u32_16, shr_u32_24, shl_u32_24, shr_u64_4, shl_u64_4, shr_u64_8, shl_u64_8, shr_u64_16, shl_u64_16, shr_u64_24, shl_u64_24, shr_u64_40, shl_u64_40, shr_i64_4, shl_i64_4, shr_i64_8, shl_i64_8, shr_i64_16, shl_i64_16, shr_i64_24, shl_i64_24, shr_i64_40, shl_i64_40]; omega)
    | ((with_reducible refine Arith.u64 ?_ ?_); simp (discharger := omega) only [Int.tdiv_eq_ediv_of_nonneg, shr_u8_4, shl_u8_4, shr_u16_4, shl_u16_4, shr_u16_8, shl_u16_8, shr_u32_4, shl_u32_4, shr_u32_8, shl_u32_8, shr_u32_16, shl_u32_16, shr_u32_24, shl_u32_24, shr_u64_4, shl_u64_4, shr_u64_8, shl_u64_8, shr_u64_16, shl_u64_16, shr_u64_24, shl_u64_24, shr_u64_40, shl_u64_40, shr_i64_4, shl_i64_4, shr_i64_8, shl_i64_8, shr_i64_16, shl_i64_16, shr_i64_24, shl_i64_24, shr_i64_40, shl_i64_40]; omega)
    | ((with_reducible refine Arith.u32 ?_ ?_); simp (discharger := omega) only [Int.tdiv_eq_ediv_of_nonneg, shr_u8_4, shl_u8_4, shr_u16_4, shl_u16_4, shr_u16_8, shl_u16_8, shr_u32_4, shl_u32_4, shr_u32_8, shl_u32_8, shr_u32_16, shl_u32_16, shr_u32_24, shl_u32_24, shr_u64_4, shl_u64_4, shr_u64_8, shl_u64_8, shr_u64_16, shl_u64_16, shr_u64_24, shl_u64_24, shr_u64_40, shl_u64_40, shr_i64_4, shl_i64_4, shr_i64_8, shl_i64_8, shr_i64_16, shl_i64_16, shr_i64_24, shl_i64_24, shr_i64_40, shl_i64_40]; omega)
    | ((with_reducible refine Arith.u16 ?_ ?_); simp (discharger := omega) only [Int.tdiv_eq_ediv_of_nonneg, shr_u8_4, shl_u8_4, shr_u16_4, shl_u16_4, shr_u16_8, shl_u16_8, shr_u32_4, shl_u32_4, shr_u32_8, shl_u32_8, shr_u32_16, shl_u32_16, shr_u32_24, shl_u32_24, shr_u64_4, shl_u64_4, shr_u64_8, shl_u64_8, shr_u64_16, shl_u64_16, shr_u64_24, shl_u64_24, shr_u64_40, shl_u64_40, shr_i64_4, shl_i64_4, shr_i64_8, shl_i64_8, shr_i64_16, shl_i64_16, shr_i64_24, shl_i64_24, shr_i64_40, shl_i64_40]; omega)
    | ((with_reducible refine Arith.u8 ?_ ?_); simp (discharger := omega) only [Int.tdiv_eq_ediv_of_nonneg, shr_u8_4, shl_u8_4, shr_u16_4, shl_u16_4, shr_u16_8, shl_u16_8, shr_u32_4, shl_u32_4, shr_u32_8, shl_u32_8, shr_u32_16, shl_u32_16, shr_u32_24, shl_u32_24, shr_u64_4, shl_u64_4, shr_u64_8, shl_u64_8, shr_u64_16, shl_u64_16, shr_u64_24, shl_u64_24, shr_u64_40, shl_u64_40, shr_i64_4, shl_i64_4, shr_i64_8, shl_i64_8, shr_i64_16, shl_i64_16, shr_i64_24, shl_i64_24, shr_i64_40, shl_i64_40]; omega)
    | (with_reducible refine Arith.mk ?_)
    | (with_reducible refine Ends.mk ?_))
  all_goals refine ⟨?_, rfl⟩
  obtain ⟨e0, e1, e2, e3, e4, e5⟩ := bAt_of6 m
  all_goals first
    | (rw [s0, s1, s2, s3, s4, s5, hd_hx b0, hd_hx b1, hd_hx b2, hd_hx b3, hd_hx b4, hd_hx b5, nil_ba]; unfold macB; rw [join6, ← e0, ← e1, ← e2, ← e3, ← e4, ← e5]; rfl)
end G4
end Go.Proofs.YtnikpanebkknfaaDoor.VM
