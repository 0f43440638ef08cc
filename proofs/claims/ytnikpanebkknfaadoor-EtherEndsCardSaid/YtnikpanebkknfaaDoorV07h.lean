/- law 07 by the evaluator: frames are written (Encode), groups, For. -/
import Derived.Test.YtnikpanebkknfaaDoorVBw7
import Derived.Test.YtnikpanebkknfaaDoorB7
import Derived.Test.YtnikpanebkknfaaDoorVBw4
namespace Go.Proofs.YtnikpanebkknfaaDoor.VM
namespace G4
open Go.RowKit
set_option linter.unusedVariables false
set_option linter.unusedSimpArgs false
set_option maxRecDepth 100000
variable {G : Ground}
def vf_ref01_Num : VFn := ⟨(.seq (.reg [
    ⟨(some 6), .mv (.c (.p (.o (.int .u64 0)))), none, 0⟩,
    ⟨(some 7), .mv (.c (.p (.o (.int .i64 0)))), none, 0⟩] 0 none) (.seq (.seq (.reg [
    ⟨(some 10), .mv (.t 1), none, 0⟩,
    ⟨(some 11), .bin .lss (.t 10) (.c (.p (.o (.int .i64 0)))), none, 0⟩,
    ⟨(some 12), .mv (.t 11), none, 0⟩,
    ⟨(some 13), .mv (.t 2), (some (12, false)), 0⟩,
    ⟨(some 14), .bin .lss (.t 13) (.c (.p (.o (.int .i64 0)))), (some (12, false)), 0⟩,
    ⟨(some 15), .pick (.t 12) (.c (.p (.o (.bool true)))) (.t 14), none, 0⟩] 0 none) (.cond (.t 15) (.seq (.reg [
    ⟨(some 6), .mv (.c (.p (.o (.int .u64 0)))), none, 0⟩,
    ⟨(some 7), .mv (.c (.p (.o (.int .i64 2)))), none, 0⟩] 0 none) .ret) .skip)) (.seq (.seq (.reg [
    ⟨(some 16), .mv (.t 1), none, 0⟩,
    ⟨(some 17), .mv (.t 0), none, 0⟩,
    ⟨(some 18), .len false (.t 17), none, 0⟩,
    ⟨(some 19), .bin .gtr (.t 16) (.t 18), none, 0⟩,
    ⟨(some 20), .mv (.t 19), none, 0⟩,
    ⟨(some 21), .mv (.t 0), (some (20, false)), 0⟩,
    ⟨(some 22), .len false (.t 21), (some (20, false)), 0⟩,
    ⟨(some 23), .mv (.t 1), (some (20, false)), 0⟩,
    ⟨(some 24), .bin .sub (.t 22) (.t 23), (some (20, false)), 0⟩,
    ⟨(some 25), .mv (.t 2), (some (20, false)), 0⟩,
    ⟨(some 26), .bin .lss (.t 24) (.t 25), (some (20, false)), 0⟩,
    ⟨(some 27), .pick (.t 20) (.c (.p (.o (.bool true)))) (.t 26), none, 0⟩] 0 none) (.cond (.t 27) (.seq (.reg [
    ⟨(some 6), .mv (.c (.p (.o (.int .u64 0)))), none, 0⟩,
    ⟨(some 7), .mv (.c (.p (.o (.int .i64 10)))), none, 0⟩] 0 none) .ret) .skip)) (.seq (.reg [
    ⟨(some 8), .mv (.c (.p (.o (.int .u64 0)))), none, 0⟩] 0 none) (.seq (.seq (.reg [
    ⟨(some 9), .mv (.c (.p (.o (.int .i64 0)))), none, 0⟩] 0 none) (.block 0 (.loop (.seq (.seq (.reg [
    ⟨(some 28), .mv (.t 9), none, 0⟩,
    ⟨(some 29), .mv (.t 2), none, 0⟩,
    ⟨(some 30), .bin .lss (.t 28) (.t 29), none, 0⟩] 0 none) (.cond (.t 30) .skip (.exit 0))) (.seq (.block 1 (.reg [
    ⟨(some 33), .mv (.t 8), none, 0⟩,
    ⟨(some 34), .bin .mul (.c (.p (.o (.int .u64 256)))) (.t 33), none, 0⟩,
    ⟨(some 35), .mv (.t 0), none, 0⟩,
    ⟨(some 36), .mv (.t 1), none, 0⟩,
    ⟨(some 37), .mv (.t 9), none, 0⟩,
    ⟨(some 38), .bin .add (.t 36) (.t 37), none, 0⟩,
    ⟨(some 39), .ixs (.t 35) (.t 38), none, 0⟩,
    ⟨(some 40), .cvi .u64 (.t 39), none, 0⟩,
    ⟨(some 41), .bin .add (.t 34) (.t 40), none, 0⟩,
    ⟨(some 8), .mv (.t 41), none, 0⟩] 0 none)) (.reg [
    ⟨(some 31), .mv (.t 9), none, 0⟩,
    ⟨(some 32), .bin .add (.t 31) (.c (.p (.o (.int .i64 1)))), none, 0⟩,
    ⟨(some 9), .mv (.t 32), none, 0⟩] 0 none)))))) (.seq (.reg [
    ⟨(some 42), .mv (.t 8), none, 0⟩,
    ⟨(some 6), .mv (.t 42), none, 0⟩,
    ⟨(some 7), .mv (.c (.p (.o (.int .i64 0)))), none, 0⟩] 0 none) .ret)))))),
  [.tmp 6, .tmp 7], 43, [0, 1, 2, 6, 7, 8, 9]⟩
theorem ok_ref01_Num : cFn Tryd.prog eqsT newsT vf_ref01_Num.keep Tryd.f62 = some vf_ref01_Num := by kernel_rfl
theorem be6 (l : List UInt8) (h : l.length = 6) : Sp.be l = ((((((l.getD 0 0).toNat * 256 + (l.getD 1 0).toNat) * 256 + (l.getD 2 0).toNat) * 256 + (l.getD 3 0).toNat) * 256 + (l.getD 4 0).toNat) * 256 + (l.getD 5 0).toNat) := by
  match l, h with
  | [a, b, c, d, e, f], _ => simp [Sp.be]
theorem be2 (l : List UInt8) (h : l.length = 2) : Sp.be l = (l.getD 0 0).toNat * 256 + (l.getD 1 0).toNat := by
  match l, h with
  | [a, b], _ => simp [Sp.be]
theorem bAt_getD (s : ByteArray) (i : Nat) (h : i < s.size) : bAt s i = ((s.data.toList.getD i 0).toNat : Int) := by
  unfold bAt; simp [List.getD, h]
theorem bAt_part (s : ByteArray) (p n i : Nat) (h : i < n) (hs : p + n ≤ s.size) : ((((s.data.toList.drop p).take n).getD i 0).toNat : Int) = bAt s (p + i) := by
  rw [bAt_getD s _ (by omega)]
  simp [List.getD, List.getElem?_take, List.getElem?_drop, h]
theorem nAt6 (s : ByteArray) (p : Nat) (h : p + 6 ≤ s.size) : nAt s p 6 = ((((bAt s (p + 0) * 256 + bAt s (p + 1)) * 256 + bAt s (p + 2)) * 256 + bAt s (p + 3)) * 256 + bAt s (p + 4)) * 256 + bAt s (p + 5) := by
  unfold nAt
  rw [be6 _ (by rw [List.length_take, List.length_drop, Sp.size_toList]; omega), ← bAt_part s p 6 0 (by decide) h, ← bAt_part s p 6 1 (by decide) h, ← bAt_part s p 6 2 (by decide) h, ← bAt_part s p 6 3 (by decide) h, ← bAt_part s p 6 4 (by decide) h, ← bAt_part s p 6 5 (by decide) h]
  omega
theorem nAt2 (s : ByteArray) (p : Nat) (h : p + 2 ≤ s.size) : nAt s p 2 = bAt s (p + 0) * 256 + bAt s (p + 1) := by
  unfold nAt
  rw [be2 _ (by rw [List.length_take, List.length_drop, Sp.size_toList]; omega), ← bAt_part s p 2 0 (by decide) h, ← bAt_part s p 2 1 (by decide) h]
  omega
set_option maxHeartbeats 4000000 in
theorem rNum0_6 (s : ByteArray) (h : 6 ≤ s.size) (hs : s.size ≤ 1000000) : Det G Tryd.prog 62 [.o (.str s), .o (.int .i64 0), .o (.int .i64 6)] [] (.t [.o (.int .u64 (nAt s 0 6)), .o (.int .i64 0)]) [] := by
  rw [nAt6 s 0 (by omega)]
  have b0 := bAt_bd s (Int.toNat (0 + 0))
  have b1 := bAt_bd s (Int.toNat (0 + (0 + 1)))
  have b2 := bAt_bd s (Int.toNat (0 + (0 + 1 + 1)))
  have b3 := bAt_bd s (Int.toNat (0 + (0 + 1 + 1 + 1)))
  have b4 := bAt_bd s (Int.toNat (0 + (0 + 1 + 1 + 1 + 1)))
  have b5 := bAt_bd s (Int.toNat (0 + (0 + 1 + 1 + 1 + 1 + 1)))
  refine can_of_W known mix Tryd.func62 (by kernel_rfl) ok_ref01_Num (Nat.le_of_ble_eq_true rfl) ?_
  repeat' ((conv => whnf); first
    | ((with_reducible refine Look.mk ?_); refine ⟨_, rfl, ?_⟩)
    | ((with_reducible refine LookN.zeros ?_))
    | ((with_reducible refine LookN.bytes ?_ ?_); (simp; done))
    | ((with_reducible refine BytesW.bytes ?_))
    | ((with_reducible refine Look.byte ?_ ?_); omega)
    | ((with_reducible refine Look.setb ?_ ?_ ?_); exact bv8_bd _; omega)
    | ((with_reducible refine LookN.setb ?_ ?_ ?_); exact bv8_bd _; omega)
    | ((with_reducible refine LookN.mk ?_); refine ⟨_, rfl, ?_⟩)
    | ((with_reducible refine Need.mk ?_ ?_); first | ((with_reducible refine needB ?_); kernel_rfl) | with_reducible rfl | omega | (with_reducible refine ⟨rfl, ?_⟩; focus omega) | (simp only [ByteArray.size_append, size_lit, List.size_toArray, List.length_cons, List.length_nil]; omega) | exact rfl | trivial | exact Nat.le_of_ble_eq_true rfl | (exact ⟨rfl, by omega⟩) | (intro h; first | rfl | cases h) | (simp only [lenS_text, lenS_setN, lenS_zeros]; omega))
    | ((with_reducible refine BytesW.mk ?_); refine ⟨_, rfl, ?_⟩)
    | ((with_reducible refine WrT.same ?_ ?_); focus (repeat (first | exact trivial | ((conv => whnf); refine ⟨rfl, ?_⟩))))
    | (with_reducible refine WrT.all ?_)
    | (with_reducible refine LoopW.unroll (fun X hX => ?_))
    | (refine hX _ _ ?_)
    | ((with_reducible refine Test.tmodEqT ?_ ?_ ?_); omega; focus first | omega | assumption)
    | ((with_reducible refine Test.tmodEqF ?_ ?_ ?_); omega; focus first | omega | assumption)
    | ((with_reducible refine Test.tmodNeT ?_ ?_ ?_); omega; focus first | omega | assumption)
    | ((with_reducible refine Test.tmodNeF ?_ ?_ ?_); omega; focus first | omega | assumption)
    | ((with_reducible refine Test.tmodEq ?_ (fun h => ?_) (fun h => ?_)); omega)
    | ((with_reducible refine Test.tmodNe ?_ (fun h => ?_) (fun h => ?_)); omega)
    | ((with_reducible refine Test.notT ?_ ?_); focus assumption)
    | ((with_reducible refine Test.notF ?_ ?_); focus assumption)
    | (with_reducible refine Test.notIe (fun h => ?_) (fun h => ?_))
    | (with_reducible refine Test.notD (fun h => ?_) (fun h => ?_))
    | ((with_reducible refine Test.empty (fun h => ?_) (fun h => ?_)))
    | (with_reducible refine Test.tt ?_)
    | (with_reducible refine Test.ff ?_)
    | ((with_reducible refine Test.dt ?_ ?_); omega)
    | ((with_reducible refine Test.df ?_ ?_); omega)
    | (with_reducible refine Test.d (fun h => ?_) (fun h => ?_))
    | ((with_reducible refine Test.ieT ?_ ?_); omega)
    | ((with_reducible refine Test.ieF ?_ ?_); omega)
    | ((with_reducible refine Test.neT ?_ ?_); omega)
    | ((with_reducible refine Test.neF ?_ ?_); omega)
    | (with_reducible refine Test.ie (fun h => ?_) (fun h => ?_))
    | (with_reducible refine Test.ne (fun h => ?_) (fun h => ?_))
    | ((with_reducible refine Test.b ?_ ?_); (focus first | assumption | (simp [negB]; done) | exact rfl))
    | ((with_reducible refine Test.nb ?_ ?_); (focus first | assumption | (simp [negB]; done) | exact rfl))
    | (with_reducible refine Test.notS (fun h => ?_) (fun h => ?_))
    | (with_reducible refine Test.mk (fun h => ?_) (fun h => ?_))
    | ((with_reducible refine Arith.tdiv ?_ ?_); omega)
    | (with_reducible refine Arith.bv8 ?_)
    | (with_reducible refine Arith.bv16 ?_)
    | (with_reducible refine Arith.bv32 ?_)
    | (with_reducible refine Arith.bv64 ?_)
    | ((with_reducible refine Arith.i64 ?_ ?_); omega)
    | ((with_reducible refine Arith.u64 ?_ ?_); omega)
    | ((with_reducible refine Arith.u32 ?_ ?_); omega)
    | ((with_reducible refine Arith.u16 ?_ ?_); omega)
    | ((with_reducible refine Arith.u8 ?_ ?_); omega)
    | ((with_reducible refine Arith.i32 ?_ ?_); omega)
    | ((with_reducible refine Arith.i64 ?_ ?_); simp (discharger := omega) only [Int.tdiv_eq_ediv_of_nonneg, shr_u8_4, shl_u8_4, shr_u16_4, shl_u16_4, shr_u16_8, shl_u16_8, shr_u32_4, shl_u32_4, shr_u32_8, shl_u32_8, shr_u32_16, shl_u32_16, shr_u32_24, shl_u32_24, shr_u64_4, shl_u64_4, shr_u64_8, shl_u64_8, shr_u64_16, shl_u64_16, shr_u64_24, shl_u64_24, shr_u64_40, shl_u64_40, shr_i64_4, shl_i64_4, shr_i64_8, shl_i64_8, shr_i64_16, shl_i64_16, shr_i64_24, shl_i64_24, shr_i64_40, shl_i64_40]; omega)
    | ((with_reducible refine Arith.u64 ?_ ?_); simp (discharger := omega) only [Int.tdiv_eq_ediv_of_nonneg, shr_u8_4, shl_u8_4, shr_u16_4, shl_u16_4, shr_u16_8, shl_u16_8, shr_u32_4, shl_u32_4, shr_u32_8, shl_u32_8, shr_u32_16, shl_u32_16, shr_u32_24, shl_u32_24, shr_u64_4, shl_u64_4, shr_u64_8, shl_u64_8, shr_u64_16, shl_u64_16, shr_u64_24, shl_u64_24, shr_u64_40, shl_u64_40, shr_i64_4, shl_i64_4, shr_i64_8, shl_i64_8, shr_i64_16, shl_i64_16, shr_i64_24, shl_i64_24, shr_i64_40, shl_i64_40]; omega)
    | ((with_reducible refine Arith.u32 ?_ ?_); simp (discharger := omega) only [Int.tdiv_eq_ediv_of_nonneg, shr_u8_4, shl_u8_4, shr_u16_4, shl_u16_4, shr_u16_8, shl_u16_8, shr_u32_4, shl_u32_4, shr_u32_8, shl_u32_8, shr_u32_16, shl_u32_16, shr_u32_24, shl_u32_24, shr_u64_4, shl_u64_4, shr_u64_8, shl_u64_8, shr_u64_16, shl_u64_16, shr_u64_24, shl_u64_24, shr_u64_40, shl_u64_40, shr_i64_4, shl_i64_4, shr_i64_8, shl_i64_8, shr_i64_16, shl_i64_16, shr_i64_24, shl_i64_24, shr_i64_40, shl_i64_40]; omega)
    | ((with_reducible refine Arith.u16 ?_ ?_); simp (discharger := omega) only [Int.tdiv_eq_ediv_of_nonneg, shr_u8_4, shl_u8_4, shr_u16_4, shl_u16_4, shr_u16_8, shl_u16_8, shr_u32_4, shl_u32_4, shr_u32_8, shl_u32_8, shr_u32_16, shl_u32_16, shr_u32_24, shl_u32_24, shr_u64_4, shl_u64_4, shr_u64_8, shl_u64_8, shr_u64_16, shl_u64_16, shr_u64_24, shl_u64_24, shr_u64_40, shl_u64_40, shr_i64_4, shl_i64_4, shr_i64_8, shl_i64_8, shr_i64_16, shl_i64_16, shr_i64_24, shl_i64_24, shr_i64_40, shl_i64_40]; omega)
    | ((with_reducible refine Arith.u8 ?_ ?_); simp (discharger := omega) only [Int.tdiv_eq_ediv_of_nonneg, shr_u8_4, shl_u8_4, shr_u16_4, shl_u16_4, shr_u16_8, shl_u16_8, shr_u32_4, shl_u32_4, shr_u32_8, shl_u32_8, shr_u32_16, shl_u32_16, shr_u32_24, shl_u32_24, shr_u64_4, shl_u64_4, shr_u64_8, shl_u64_8, shr_u64_16, shl_u64_16, shr_u64_24, shl_u64_24, shr_u64_40, shl_u64_40, shr_i64_4, shl_i64_4, shr_i64_8, shl_i64_8, shr_i64_16, shl_i64_16, shr_i64_24, shl_i64_24, shr_i64_40, shl_i64_40]; omega)
    | (with_reducible refine Arith.mk ?_)
    | (with_reducible refine Ends.mk ?_))
  all_goals first
    | (refine ⟨?_, rfl⟩; congr 4; simp; omega)
    | (refine ⟨?_, rfl⟩; simp; omega)
set_option maxHeartbeats 4000000 in
theorem rNum6_6 (s : ByteArray) (h : 12 ≤ s.size) (hs : s.size ≤ 1000000) : Det G Tryd.prog 62 [.o (.str s), .o (.int .i64 6), .o (.int .i64 6)] [] (.t [.o (.int .u64 (nAt s 6 6)), .o (.int .i64 0)]) [] := by
  rw [nAt6 s 6 (by omega)]
  have b0 := bAt_bd s (Int.toNat (6 + 0))
  have b1 := bAt_bd s (Int.toNat (6 + (0 + 1)))
  have b2 := bAt_bd s (Int.toNat (6 + (0 + 1 + 1)))
  have b3 := bAt_bd s (Int.toNat (6 + (0 + 1 + 1 + 1)))
  have b4 := bAt_bd s (Int.toNat (6 + (0 + 1 + 1 + 1 + 1)))
  have b5 := bAt_bd s (Int.toNat (6 + (0 + 1 + 1 + 1 + 1 + 1)))
  refine can_of_W known mix Tryd.func62 (by kernel_rfl) ok_ref01_Num (Nat.le_of_ble_eq_true rfl) ?_
  repeat' ((conv => whnf); first
    | ((with_reducible refine Look.mk ?_); refine ⟨_, rfl, ?_⟩)
    | ((with_reducible refine LookN.zeros ?_))
    | ((with_reducible refine LookN.bytes ?_ ?_); (simp; done))
    | ((with_reducible refine BytesW.bytes ?_))
    | ((with_reducible refine Look.byte ?_ ?_); omega)
    | ((with_reducible refine Look.setb ?_ ?_ ?_); exact bv8_bd _; omega)
    | ((with_reducible refine LookN.setb ?_ ?_ ?_); exact bv8_bd _; omega)
    | ((with_reducible refine LookN.mk ?_); refine ⟨_, rfl, ?_⟩)
    | ((with_reducible refine Need.mk ?_ ?_); first | ((with_reducible refine needB ?_); kernel_rfl) | with_reducible rfl | omega | (with_reducible refine ⟨rfl, ?_⟩; focus omega) | (simp only [ByteArray.size_append, size_lit, List.size_toArray, List.length_cons, List.length_nil]; omega) | exact rfl | trivial | exact Nat.le_of_ble_eq_true rfl | (exact ⟨rfl, by omega⟩) | (intro h; first | rfl | cases h) | (simp only [lenS_text, lenS_setN, lenS_zeros]; omega))
    | ((with_reducible refine BytesW.mk ?_); refine ⟨_, rfl, ?_⟩)
    | ((with_reducible refine WrT.same ?_ ?_); focus (repeat (first | exact trivial | ((conv => whnf); refine ⟨rfl, ?_⟩))))
    | (with_reducible refine WrT.all ?_)
    | (with_reducible refine LoopW.unroll (fun X hX => ?_))
    | (refine hX _ _ ?_)
    | ((with_reducible refine Test.tmodEqT ?_ ?_ ?_); omega; focus first | omega | assumption)
    | ((with_reducible refine Test.tmodEqF ?_ ?_ ?_); omega; focus first | omega | assumption)
    | ((with_reducible refine Test.tmodNeT ?_ ?_ ?_); omega; focus first | omega | assumption)
    | ((with_reducible refine Test.tmodNeF ?_ ?_ ?_); omega; focus first | omega | assumption)
    | ((with_reducible refine Test.tmodEq ?_ (fun h => ?_) (fun h => ?_)); omega)
    | ((with_reducible refine Test.tmodNe ?_ (fun h => ?_) (fun h => ?_)); omega)
    | ((with_reducible refine Test.notT ?_ ?_); focus assumption)
    | ((with_reducible refine Test.notF ?_ ?_); focus assumption)
    | (with_reducible refine Test.notIe (fun h => ?_) (fun h => ?_))
    | (with_reducible refine Test.notD (fun h => ?_) (fun h => ?_))
    | ((with_reducible refine Test.empty (fun h => ?_) (fun h => ?_)))
    | (with_reducible refine Test.tt ?_)
    | (with_reducible refine Test.ff ?_)
    | ((with_reducible refine Test.dt ?_ ?_); omega)
    | ((with_reducible refine Test.df ?_ ?_); omega)
    | (with_reducible refine Test.d (fun h => ?_) (fun h => ?_))
    | ((with_reducible refine Test.ieT ?_ ?_); omega)
    | ((with_reducible refine Test.ieF ?_ ?_); omega)
    | ((with_reducible refine Test.neT ?_ ?_); omega)
    | ((with_reducible refine Test.neF ?_ ?_); omega)
    | (with_reducible refine Test.ie (fun h => ?_) (fun h => ?_))
    | (with_reducible refine Test.ne (fun h => ?_) (fun h => ?_))
    | ((with_reducible refine Test.b ?_ ?_); (focus first | assumption | (simp [negB]; done) | exact rfl))
    | ((with_reducible refine Test.nb ?_ ?_); (focus first | assumption | (simp [negB]; done) | exact rfl))
    | (with_reducible refine Test.notS (fun h => ?_) (fun h => ?_))
    | (with_reducible refine Test.mk (fun h => ?_) (fun h => ?_))
    | ((with_reducible refine Arith.tdiv ?_ ?_); omega)
    | (with_reducible refine Arith.bv8 ?_)
    | (with_reducible refine Arith.bv16 ?_)
    | (with_reducible refine Arith.bv32 ?_)
    | (with_reducible refine Arith.bv64 ?_)
    | ((with_reducible refine Arith.i64 ?_ ?_); omega)
    | ((with_reducible refine Arith.u64 ?_ ?_); omega)
    | ((with_reducible refine Arith.u32 ?_ ?_); omega)
    | ((with_reducible refine Arith.u16 ?_ ?_); omega)
    | ((with_reducible refine Arith.u8 ?_ ?_); omega)
    | ((with_reducible refine Arith.i32 ?_ ?_); omega)
    | ((with_reducible refine Arith.i64 ?_ ?_); simp (discharger := omega) only [Int.tdiv_eq_ediv_of_nonneg, shr_u8_4, shl_u8_4, shr_u16_4, shl_u16_4, shr_u16_8, shl_u16_8, shr_u32_4, shl_u32_4, shr_u32_8, shl_u32_8, shr_u32_16, shl_u32_16, shr_u32_24, shl_u32_24, shr_u64_4, shl_u64_4, shr_u64_8, shl_u64_8, shr_u64_16, shl_u64_16, shr_u64_24, shl_u64_24, shr_u64_40, shl_u64_40, shr_i64_4, shl_i64_4, shr_i64_8, shl_i64_8, shr_i64_16, shl_i64_16, shr_i64_24, shl_i64_24, shr_i64_40, shl_i64_40]; omega)
    | ((with_reducible refine Arith.u64 ?_ ?_); simp (discharger := omega) only [Int.tdiv_eq_ediv_of_nonneg, shr_u8_4, shl_u8_4, shr_u16_4, shl_u16_4, shr_u16_8, shl_u16_8, shr_u32_4, shl_u32_4, shr_u32_8, shl_u32_8, shr_u32_16, shl_u32_16, shr_u32_24, shl_u32_24, shr_u64_4, shl_u64_4, shr_u64_8, shl_u64_8, shr_u64_16, shl_u64_16, shr_u64_24, shl_u64_24, shr_u64_40, shl_u64_40, shr_i64_4, shl_i64_4, shr_i64_8, shl_i64_8, shr_i64_16, shl_i64_16, shr_i64_24, shl_i64_24, shr_i64_40, shl_i64_40]; omega)
    | ((with_reducible refine Arith.u32 ?_ ?_); simp (discharger := omega) only [Int.tdiv_eq_ediv_of_nonneg, shr_u8_4, shl_u8_4, shr_u16_4, shl_u16_4, shr_u16_8, shl_u16_8, shr_u32_4, shl_u32_4, shr_u32_8, shl_u32_8, shr_u32_16, shl_u32_16, shr_u32_24, shl_u32_24, shr_u64_4, shl_u64_4, shr_u64_8, shl_u64_8, shr_u64_16, shl_u64_16, shr_u64_24, shl_u64_24, shr_u64_40, shl_u64_40, shr_i64_4, shl_i64_4, shr_i64_8, shl_i64_8, shr_i64_16, shl_i64_16, shr_i64_24, shl_i64_24, shr_i64_40, shl_i64_40]; omega)
    | ((with_reducible refine Arith.u16 ?_ ?_); simp (discharger := omega) only [Int.tdiv_eq_ediv_of_nonneg, shr_u8_4, shl_u8_4, shr_u16_4, shl_u16_4, shr_u16_8, shl_u16_8, shr_u32_4, shl_u32_4, shr_u32_8, shl_u32_8, shr_u32_16, shl_u32_16, shr_u32_24, shl_u32_24, shr_u64_4, shl_u64_4, shr_u64_8, shl_u64_8, shr_u64_16, shl_u64_16, shr_u64_24, shl_u64_24, shr_u64_40, shl_u64_40, shr_i64_4, shl_i64_4, shr_i64_8, shl_i64_8, shr_i64_16, shl_i64_16, shr_i64_24, shl_i64_24, shr_i64_40, shl_i64_40]; omega)
    | ((with_reducible refine Arith.u8 ?_ ?_); simp (discharger := omega) only [Int.tdiv_eq_ediv_of_nonneg, shr_u8_4, shl_u8_4, shr_u16_4, shl_u16_4, shr_u16_8, shl_u16_8, shr_u32_4, shl_u32_4, shr_u32_8, shl_u32_8, shr_u32_16, shl_u32_16, shr_u32_24, shl_u32_24, shr_u64_4, shl_u64_4, shr_u64_8, shl_u64_8, shr_u64_16, shl_u64_16, shr_u64_24, shl_u64_24, shr_u64_40, shl_u64_40, shr_i64_4, shl_i64_4, shr_i64_8, shl_i64_8, shr_i64_16, shl_i64_16, shr_i64_24, shl_i64_24, shr_i64_40, shl_i64_40]; omega)
    | (with_reducible refine Arith.mk ?_)
    | (with_reducible refine Ends.mk ?_))
  all_goals first
    | (refine ⟨?_, rfl⟩; congr 4; simp; omega)
    | (refine ⟨?_, rfl⟩; simp; omega)
set_option maxHeartbeats 4000000 in
theorem rNum12_2 (s : ByteArray) (h : 14 ≤ s.size) (hs : s.size ≤ 1000000) : Det G Tryd.prog 62 [.o (.str s), .o (.int .i64 12), .o (.int .i64 2)] [] (.t [.o (.int .u64 (nAt s 12 2)), .o (.int .i64 0)]) [] := by
  rw [nAt2 s 12 (by omega)]
  have b0 := bAt_bd s (Int.toNat (12 + 0))
  have b1 := bAt_bd s (Int.toNat (12 + (0 + 1)))
  refine can_of_W known mix Tryd.func62 (by kernel_rfl) ok_ref01_Num (Nat.le_of_ble_eq_true rfl) ?_
  repeat' ((conv => whnf); first
    | ((with_reducible refine Look.mk ?_); refine ⟨_, rfl, ?_⟩)
    | ((with_reducible refine LookN.zeros ?_))
    | ((with_reducible refine LookN.bytes ?_ ?_); (simp; done))
    | ((with_reducible refine BytesW.bytes ?_))
    | ((with_reducible refine Look.byte ?_ ?_); omega)
    | ((with_reducible refine Look.setb ?_ ?_ ?_); exact bv8_bd _; omega)
    | ((with_reducible refine LookN.setb ?_ ?_ ?_); exact bv8_bd _; omega)
    | ((with_reducible refine LookN.mk ?_); refine ⟨_, rfl, ?_⟩)
    | ((with_reducible refine Need.mk ?_ ?_); first | ((with_reducible refine needB ?_); kernel_rfl) | with_reducible rfl | omega | (with_reducible refine ⟨rfl, ?_⟩; focus omega) | (simp only [ByteArray.size_append, size_lit, List.size_toArray, List.length_cons, List.length_nil]; omega) | exact rfl | trivial | exact Nat.le_of_ble_eq_true rfl | (exact ⟨rfl, by omega⟩) | (intro h; first | rfl | cases h) | (simp only [lenS_text, lenS_setN, lenS_zeros]; omega))
    | ((with_reducible refine BytesW.mk ?_); refine ⟨_, rfl, ?_⟩)
    | ((with_reducible refine WrT.same ?_ ?_); focus (repeat (first | exact trivial | ((conv => whnf); refine ⟨rfl, ?_⟩))))
    | (with_reducible refine WrT.all ?_)
    | (with_reducible refine LoopW.unroll (fun X hX => ?_))
    | (refine hX _ _ ?_)
    | ((with_reducible refine Test.tmodEqT ?_ ?_ ?_); omega; focus first | omega | assumption)
    | ((with_reducible refine Test.tmodEqF ?_ ?_ ?_); omega; focus first | omega | assumption)
    | ((with_reducible refine Test.tmodNeT ?_ ?_ ?_); omega; focus first | omega | assumption)
    | ((with_reducible refine Test.tmodNeF ?_ ?_ ?_); omega; focus first | omega | assumption)
    | ((with_reducible refine Test.tmodEq ?_ (fun h => ?_) (fun h => ?_)); omega)
    | ((with_reducible refine Test.tmodNe ?_ (fun h => ?_) (fun h => ?_)); omega)
    | ((with_reducible refine Test.notT ?_ ?_); focus assumption)
    | ((with_reducible refine Test.notF ?_ ?_); focus assumption)
    | (with_reducible refine Test.notIe (fun h => ?_) (fun h => ?_))
    | (with_reducible refine Test.notD (fun h => ?_) (fun h => ?_))
    | ((with_reducible refine Test.empty (fun h => ?_) (fun h => ?_)))
    | (with_reducible refine Test.tt ?_)
    | (with_reducible refine Test.ff ?_)
    | ((with_reducible refine Test.dt ?_ ?_); omega)
    | ((with_reducible refine Test.df ?_ ?_); omega)
    | (with_reducible refine Test.d (fun h => ?_) (fun h => ?_))
    | ((with_reducible refine Test.ieT ?_ ?_); omega)
    | ((with_reducible refine Test.ieF ?_ ?_); omega)
    | ((with_reducible refine Test.neT ?_ ?_); omega)
    | ((with_reducible refine Test.neF ?_ ?_); omega)
    | (with_reducible refine Test.ie (fun h => ?_) (fun h => ?_))
    | (with_reducible refine Test.ne (fun h => ?_) (fun h => ?_))
    | ((with_reducible refine Test.b ?_ ?_); (focus first | assumption | (simp [negB]; done) | exact rfl))
    | ((with_reducible refine Test.nb ?_ ?_); (focus first | assumption | (simp [negB]; done) | exact rfl))
    | (with_reducible refine Test.notS (fun h => ?_) (fun h => ?_))
    | (with_reducible refine Test.mk (fun h => ?_) (fun h => ?_))
    | ((with_reducible refine Arith.tdiv ?_ ?_); omega)
    | (with_reducible refine Arith.bv8 ?_)
    | (with_reducible refine Arith.bv16 ?_)
    | (with_reducible refine Arith.bv32 ?_)
    | (with_reducible refine Arith.bv64 ?_)
    | ((with_reducible refine Arith.i64 ?_ ?_); omega)
    | ((with_reducible refine Arith.u64 ?_ ?_); omega)
    | ((with_reducible refine Arith.u32 ?_ ?_); omega)
    | ((with_reducible refine Arith.u16 ?_ ?_); omega)
    | ((with_reducible refine Arith.u8 ?_ ?_); omega)
    | ((with_reducible refine Arith.i32 ?_ ?_); omega)
    | ((with_reducible refine Arith.i64 ?_ ?_); simp (discharger := omega) only [Int.tdiv_eq_ediv_of_nonneg, shr_u8_4, shl_u8_4, shr_u16_4, shl_u16_4, shr_u16_8, shl_u16_8, shr_u32_4, shl_u32_4, shr_u32_8, shl_u32_8, shr_u32_16, shl_u32_16, shr_u32_24, shl_u32_24, shr_u64_4, shl_u64_4, shr_u64_8, shl_u64_8, shr_u64_16, shl_u64_16, shr_u64_24, shl_u64_24, shr_u64_40, shl_u64_40, shr_i64_4, shl_i64_4, shr_i64_8, shl_i64_8, shr_i64_16, shl_i64_16, shr_i64_24, shl_i64_24, shr_i64_40, shl_i64_40]; omega)
    | ((with_reducible refine Arith.u64 ?_ ?_); simp (discharger := omega) only [Int.tdiv_eq_ediv_of_nonneg, shr_u8_4, shl_u8_4, shr_u16_4, shl_u16_4, shr_u16_8, shl_u16_8, shr_u32_4, shl_u32_4, shr_u32_8, shl_u32_8, shr_u32_16, shl_u32_16, shr_u32_24, shl_u32_24, shr_u64_4, shl_u64_4, shr_u64_8, shl_u64_8, shr_u64_16, shl_u64_16, shr_u64_24, shl_u64_24, shr_u64_40, shl_u64_40, shr_i64_4, shl_i64_4, shr_i64_8, shl_i64_8, shr_i64_16, shl_i64_16, shr_i64_24, shl_i64_24, shr_i64_40, shl_i64_40]; omega)
    | ((with_reducible refine Arith.u32 ?_ ?_); simp (discharger := omega) only [Int.tdiv_eq_ediv_of_nonneg, shr_u8_4, shl_u8_4, shr_u16_4, shl_u16_4, shr_u16_8, shl_u16_8, shr_u32_4, shl_u32_4, shr_u32_8, shl_u32_8, shr_u32_16, shl_u32_16, shr_u32_24, shl_u32_24, shr_u64_4, shl_u64_4, shr_u64_8, shl_u64_8, shr_u64_16, shl_u64_16, shr_u64_24, shl_u64_24, shr_u64_40, shl_u64_40, shr_i64_4, shl_i64_4, shr_i64_8, shl_i64_8, shr_i64_16, shl_i64_16, shr_i64_24, shl_i64_24, shr_i64_40, shl_i64_40]; omega)
    | ((with_reducible refine Arith.u16 ?_ ?_); simp (discharger := omega) only [Int.tdiv_eq_ediv_of_nonneg, shr_u8_4, shl_u8_4, shr_u16_4, shl_u16_4, shr_u16_8, shl_u16_8, shr_u32_4, shl_u32_4, shr_u32_8, shl_u32_8, shr_u32_16, shl_u32_16, shr_u32_24, shl_u32_24, shr_u64_4, shl_u64_4, shr_u64_8, shl_u64_8, shr_u64_16, shl_u64_16, shr_u64_24, shl_u64_24, shr_u64_40, shl_u64_40, shr_i64_4, shl_i64_4, shr_i64_8, shl_i64_8, shr_i64_16, shl_i64_16, shr_i64_24, shl_i64_24, shr_i64_40, shl_i64_40]; omega)
    | ((with_reducible refine Arith.u8 ?_ ?_); simp (discharger := omega) only [Int.tdiv_eq_ediv_of_nonneg, shr_u8_4, shl_u8_4, shr_u16_4, shl_u16_4, shr_u16_8, shl_u16_8, shr_u32_4, shl_u32_4, shr_u32_8, shl_u32_8, shr_u32_16, shl_u32_16, shr_u32_24, shl_u32_24, shr_u64_4, shl_u64_4, shr_u64_8, shl_u64_8, shr_u64_16, shl_u64_16, shr_u64_24, shl_u64_24, shr_u64_40, shl_u64_40, shr_i64_4, shl_i64_4, shr_i64_8, shl_i64_8, shr_i64_16, shl_i64_16, shr_i64_24, shl_i64_24, shr_i64_40, shl_i64_40]; omega)
    | (with_reducible refine Arith.mk ?_)
    | (with_reducible refine Ends.mk ?_))
  all_goals first
    | (refine ⟨?_, rfl⟩; congr 4; simp; omega)
    | (refine ⟨?_, rfl⟩; simp; omega)
end G4
end Go.Proofs.YtnikpanebkknfaaDoor.VM

namespace Go.Proofs.YtnikpanebkknfaaDoor.VM
namespace G4
open Go.RowKit
set_option linter.unusedVariables false
set_option linter.unusedSimpArgs false
set_option maxRecDepth 100000
variable {G : Ground}
def vf_ether_group : VFn := ⟨(.seq (.reg [
    ⟨(some 2), .mv (.c (.p (.o (.bool false)))), none, 0⟩] 0 none) (.seq (.reg [
    ⟨(some 3), .mv (.t 0), none, 0⟩,
    ⟨(some 4), .bin .shr (.t 3) (.c (.p (.o (.int .u64 40)))), none, 0⟩,
    ⟨(some 5), .bin .and (.t 4) (.c (.p (.o (.int .u64 1)))), none, 0⟩,
    ⟨(some 6), .bin .eql (.t 5) (.c (.p (.o (.int .u64 1)))), none, 0⟩,
    ⟨(some 2), .mv (.t 6), none, 0⟩] 0 none) .ret)),
  [.tmp 2], 7, [0, 2]⟩
theorem ok_ether_group : cFn Tryd.prog eqsT newsT vf_ether_group.keep Tryd.f42 = some vf_ether_group := by kernel_rfl
def vf_ether_For : VFn := ⟨(.seq (.reg [
    ⟨(some 2), .box (.t 0), none, 0⟩,
    ⟨(some 4), .mv (.c (.p (.o (.bool false)))), none, 1⟩] 1 none) (.seq (.reg [
    ⟨(some 5), .fad 0 (.t 2), none, 0⟩,
    ⟨(some 6), .ld none (.t 5), none, 0⟩,
    ⟨(some 7), .mv (.t 1), none, 0⟩,
    ⟨(some 8), .bin .eql (.t 6) (.t 7), none, 0⟩,
    ⟨(some 9), .mv (.t 8), none, 0⟩,
    ⟨(some 10), .fad 0 (.t 2), (some (9, false)), 0⟩,
    ⟨(some 11), .ld none (.t 10), (some (9, false)), 0⟩,
    ⟨(some 12), .bin .eql (.t 11) (.c (.p (.o (.int .u64 281474976710655)))), (some (9, false)), 0⟩,
    ⟨(some 13), .pick (.t 9) (.c (.p (.o (.bool true)))) (.t 12), none, 0⟩,
    ⟨(some 4), .mv (.t 13), none, 0⟩] 0 none) .ret)),
  [.tmp 4], 14, [0, 1, 2, 4]⟩
theorem ok_ether_For : cFn Tryd.prog eqsT newsT vf_ether_For.keep Tryd.f40 = some vf_ether_For := by kernel_rfl
def vf_ether_Encode : VFn := ⟨(.seq (.reg [
    ⟨(some 1), .box (.t 0), none, 0⟩,
    ⟨(some 2), .mv (.c (.p (.o (.str ⟨#[]⟩)))), none, 1⟩,
    ⟨(some 3), .mv (.c (.p (.o (.int .i64 0)))), none, 1⟩] 1 none) (.seq (.block 0 (.seq (.reg [
    ⟨(some 6), .fad 0 (.t 1), none, 0⟩,
    ⟨(some 7), .ld none (.t 6), none, 0⟩,
    ⟨(some 8), .bin .gtr (.t 7) (.c (.p (.o (.int .u64 281474976710655)))), none, 0⟩,
    ⟨(some 9), .mv (.t 8), none, 0⟩,
    ⟨(some 10), .fad 1 (.t 1), (some (9, false)), 0⟩,
    ⟨(some 11), .ld none (.t 10), (some (9, false)), 0⟩,
    ⟨(some 12), .bin .gtr (.t 11) (.c (.p (.o (.int .u64 281474976710655)))), (some (9, false)), 0⟩,
    ⟨(some 13), .pick (.t 9) (.c (.p (.o (.bool true)))) (.t 12), none, 0⟩,
    ⟨(some 14), .mv (.t 13), none, 0⟩,
    ⟨(some 15), .fad 1 (.t 1), (some (14, false)), 0⟩,
    ⟨(some 16), .ld none (.t 15), (some (14, false)), 0⟩,
    ⟨(some 17), .call 42 [(.t 16)] 0, (some (14, false)), 0⟩,
    ⟨(some 18), .pick (.t 14) (.c (.p (.o (.bool true)))) (.t 17), none, 0⟩,
    ⟨(some 5), .mv (.t 18), none, 0⟩] 0 none) (.cond (.t 5) (.seq (.reg [
    ⟨(some 2), .mv (.c (.p (.o (.str ⟨#[]⟩)))), none, 0⟩,
    ⟨(some 3), .mv (.c (.p (.o (.int .i64 2)))), none, 0⟩] 0 none) .ret) (.seq (.reg [
    ⟨(some 20), .fad 3 (.t 1), none, 0⟩,
    ⟨(some 21), .ld none (.t 20), none, 0⟩,
    ⟨(some 22), .len false (.t 21), none, 0⟩,
    ⟨(some 23), .bin .gtr (.t 22) (.c (.p (.o (.int .i64 65535)))), none, 0⟩,
    ⟨(some 19), .mv (.t 23), none, 0⟩] 0 none) (.cond (.t 19) (.seq (.reg [
    ⟨(some 2), .mv (.c (.p (.o (.str ⟨#[]⟩)))), none, 0⟩,
    ⟨(some 3), .mv (.c (.p (.o (.int .i64 4)))), none, 0⟩] 0 none) .ret) .skip))))) (.seq (.reg [
    ⟨(some 24), .fad 0 (.t 1), none, 0⟩,
    ⟨(some 25), .ld none (.t 24), none, 0⟩,
    ⟨(some 26), .call 43 [(.t 25), (.c (.p (.o (.int .i64 6))))] 0, none, 0⟩,
    ⟨(some 27), .fad 1 (.t 1), none, 0⟩,
    ⟨(some 28), .ld none (.t 27), none, 0⟩,
    ⟨(some 29), .call 43 [(.t 28), (.c (.p (.o (.int .i64 6))))] 0, none, 0⟩,
    ⟨(some 30), .bin .add (.t 26) (.t 29), none, 0⟩,
    ⟨(some 31), .fad 2 (.t 1), none, 0⟩,
    ⟨(some 32), .ld none (.t 31), none, 0⟩,
    ⟨(some 33), .cvi .u64 (.t 32), none, 0⟩,
    ⟨(some 34), .call 43 [(.t 33), (.c (.p (.o (.int .i64 2))))] 0, none, 0⟩,
    ⟨(some 35), .bin .add (.t 30) (.t 34), none, 0⟩,
    ⟨(some 36), .fad 3 (.t 1), none, 0⟩,
    ⟨(some 37), .ld none (.t 36), none, 0⟩,
    ⟨(some 38), .bin .add (.t 35) (.t 37), none, 0⟩,
    ⟨(some 4), .mv (.t 38), none, 0⟩] 0 (some [(0, 3), (1, 3), (2, 3), (0, 4), (1, 4), (2, 4), (0, 7), (1, 7), (2, 7), (3, 7), (4, 7), (5, 7), (6, 7), (0, 8), (1, 8), (2, 8), (3, 8), (4, 8), (5, 8), (6, 8), (0, 9), (1, 9), (2, 9), (3, 9), (4, 9), (5, 9), (6, 9), (6, 10), (0, 12), (1, 12), (2, 12), (3, 12), (4, 12), (5, 12), (6, 12), (7, 12), (8, 12), (9, 12), (10, 12), (11, 12), (0, 13), (1, 13), (2, 13), (3, 13), (4, 13), (5, 13), (6, 13), (7, 13), (8, 13), (9, 13), (10, 13), (11, 13)])) (.seq (.reg [
    ⟨(some 39), .mv (.t 4), none, 0⟩,
    ⟨(some 40), .mv (.t 4), none, 0⟩,
    ⟨(some 41), .len false (.t 40), none, 0⟩,
    ⟨(some 42), .bin .sub (.c (.p (.o (.int .i64 60)))) (.t 41), none, 0⟩,
    ⟨(some 43), .mnx true (.c (.p (.o (.int .i64 0)))) (.t 42), none, 0⟩,
    ⟨(some 44), .call 44 [(.c (.p (.o (.str ⟨#[0]⟩)))), (.t 43)] 0, none, 0⟩,
    ⟨(some 45), .bin .add (.t 39) (.t 44), none, 0⟩,
    ⟨(some 2), .mv (.t 45), none, 0⟩,
    ⟨(some 3), .mv (.c (.p (.o (.int .i64 0)))), none, 0⟩] 0 none) .ret)))),
  [.tmp 2, .tmp 3], 46, [0, 1, 2, 3, 4]⟩
theorem ok_ether_Encode : cFn Tryd.prog eqsT newsT vf_ether_Encode.keep Tryd.f13 = some vf_ether_Encode := by kernel_rfl
def vf_ref07_Group : VFn := ⟨(.seq (.reg [
    ⟨(some 2), .mv (.c (.p (.o (.bool false)))), none, 0⟩] 0 none) (.seq (.reg [
    ⟨(some 3), .mv (.t 0), none, 0⟩,
    ⟨(some 4), .bin .shr (.t 3) (.c (.p (.o (.int .u64 40)))), none, 0⟩,
    ⟨(some 5), .bin .and (.t 4) (.c (.p (.o (.int .u64 1)))), none, 0⟩,
    ⟨(some 6), .bin .eql (.t 5) (.c (.p (.o (.int .u64 1)))), none, 0⟩,
    ⟨(some 2), .mv (.t 6), none, 0⟩] 0 none) .ret)),
  [.tmp 2], 7, [0, 2]⟩
theorem ok_ref07_Group : cFn Tryd.prog eqsT newsT vf_ref07_Group.keep Tryd.f61 = some vf_ref07_Group := by kernel_rfl
def vf_ref07_For : VFn := ⟨(.seq (.reg [
    ⟨(some 2), .box (.t 0), none, 0⟩,
    ⟨(some 4), .mv (.c (.p (.o (.bool false)))), none, 1⟩] 1 none) (.seq (.reg [
    ⟨(some 5), .fad 0 (.t 2), none, 0⟩,
    ⟨(some 6), .ld none (.t 5), none, 0⟩,
    ⟨(some 7), .mv (.t 1), none, 0⟩,
    ⟨(some 8), .bin .eql (.t 6) (.t 7), none, 0⟩,
    ⟨(some 9), .mv (.t 8), none, 0⟩,
    ⟨(some 10), .fad 0 (.t 2), (some (9, false)), 0⟩,
    ⟨(some 11), .ld none (.t 10), (some (9, false)), 0⟩,
    ⟨(some 12), .bin .eql (.t 11) (.c (.p (.o (.int .u64 281474976710655)))), (some (9, false)), 0⟩,
    ⟨(some 13), .pick (.t 9) (.c (.p (.o (.bool true)))) (.t 12), none, 0⟩,
    ⟨(some 4), .mv (.t 13), none, 0⟩] 0 none) .ret)),
  [.tmp 4], 14, [0, 1, 2, 4]⟩
theorem ok_ref07_For : cFn Tryd.prog eqsT newsT vf_ref07_For.keep Tryd.f41 = some vf_ref07_For := by kernel_rfl
def vf_ref07_Encode : VFn := ⟨(.seq (.reg [
    ⟨(some 1), .box (.t 0), none, 0⟩,
    ⟨(some 2), .mv (.c (.p (.o (.str ⟨#[]⟩)))), none, 1⟩,
    ⟨(some 3), .mv (.c (.p (.o (.int .i64 0)))), none, 1⟩] 1 none) (.seq (.seq (.reg [
    ⟨(some 5), .fad 0 (.t 1), none, 0⟩,
    ⟨(some 6), .ld none (.t 5), none, 0⟩,
    ⟨(some 7), .bin .geq (.t 6) (.c (.p (.o (.int .u64 281474976710656)))), none, 0⟩,
    ⟨(some 8), .mv (.t 7), none, 0⟩,
    ⟨(some 9), .fad 1 (.t 1), (some (8, false)), 0⟩,
    ⟨(some 10), .ld none (.t 9), (some (8, false)), 0⟩,
    ⟨(some 11), .bin .geq (.t 10) (.c (.p (.o (.int .u64 281474976710656)))), (some (8, false)), 0⟩,
    ⟨(some 12), .pick (.t 8) (.c (.p (.o (.bool true)))) (.t 11), none, 0⟩,
    ⟨(some 13), .mv (.t 12), none, 0⟩,
    ⟨(some 14), .fad 1 (.t 1), (some (13, false)), 0⟩,
    ⟨(some 15), .ld none (.t 14), (some (13, false)), 0⟩,
    ⟨(some 16), .call 61 [(.t 15)] 0, (some (13, false)), 0⟩,
    ⟨(some 17), .pick (.t 13) (.c (.p (.o (.bool true)))) (.t 16), none, 0⟩] 0 none) (.cond (.t 17) (.seq (.reg [
    ⟨(some 2), .mv (.c (.p (.o (.str ⟨#[]⟩)))), none, 0⟩,
    ⟨(some 3), .mv (.c (.p (.o (.int .i64 2)))), none, 0⟩] 0 none) .ret) .skip)) (.seq (.seq (.reg [
    ⟨(some 18), .fad 3 (.t 1), none, 0⟩,
    ⟨(some 19), .ld none (.t 18), none, 0⟩,
    ⟨(some 20), .len false (.t 19), none, 0⟩,
    ⟨(some 21), .bin .gtr (.t 20) (.c (.p (.o (.int .i64 65535)))), none, 0⟩] 0 none) (.cond (.t 21) (.seq (.reg [
    ⟨(some 2), .mv (.c (.p (.o (.str ⟨#[]⟩)))), none, 0⟩,
    ⟨(some 3), .mv (.c (.p (.o (.int .i64 4)))), none, 0⟩] 0 none) .ret) .skip)) (.seq (.reg [
    ⟨(some 22), .fad 0 (.t 1), none, 0⟩,
    ⟨(some 23), .ld none (.t 22), none, 0⟩,
    ⟨(some 24), .call 53 [(.t 23), (.c (.p (.o (.int .i64 6))))] 0, none, 0⟩,
    ⟨(some 25), .fad 1 (.t 1), none, 0⟩,
    ⟨(some 26), .ld none (.t 25), none, 0⟩,
    ⟨(some 27), .call 53 [(.t 26), (.c (.p (.o (.int .i64 6))))] 0, none, 0⟩,
    ⟨(some 28), .bin .add (.t 24) (.t 27), none, 0⟩,
    ⟨(some 29), .fad 2 (.t 1), none, 0⟩,
    ⟨(some 30), .ld none (.t 29), none, 0⟩,
    ⟨(some 31), .cvi .u64 (.t 30), none, 0⟩,
    ⟨(some 32), .call 53 [(.t 31), (.c (.p (.o (.int .i64 2))))] 0, none, 0⟩,
    ⟨(some 33), .bin .add (.t 28) (.t 32), none, 0⟩,
    ⟨(some 34), .fad 3 (.t 1), none, 0⟩,
    ⟨(some 35), .ld none (.t 34), none, 0⟩,
    ⟨(some 36), .bin .add (.t 33) (.t 35), none, 0⟩,
    ⟨(some 4), .mv (.t 36), none, 0⟩] 0 (some [(0, 3), (1, 3), (2, 3), (0, 4), (1, 4), (2, 4), (0, 7), (1, 7), (2, 7), (3, 7), (4, 7), (5, 7), (6, 7), (0, 8), (1, 8), (2, 8), (3, 8), (4, 8), (5, 8), (6, 8), (0, 9), (1, 9), (2, 9), (3, 9), (4, 9), (5, 9), (6, 9), (6, 10), (0, 12), (1, 12), (2, 12), (3, 12), (4, 12), (5, 12), (6, 12), (7, 12), (8, 12), (9, 12), (10, 12), (11, 12), (0, 13), (1, 13), (2, 13), (3, 13), (4, 13), (5, 13), (6, 13), (7, 13), (8, 13), (9, 13), (10, 13), (11, 13)])) (.seq (.seq (.reg [
    ⟨(some 37), .mv (.t 4), none, 0⟩,
    ⟨(some 38), .len false (.t 37), none, 0⟩,
    ⟨(some 39), .bin .lss (.t 38) (.c (.p (.o (.int .i64 60)))), none, 0⟩] 0 none) (.cond (.t 39) (.reg [
    ⟨(some 40), .mv (.t 4), none, 0⟩,
    ⟨(some 41), .mv (.t 4), none, 0⟩,
    ⟨(some 42), .len false (.t 41), none, 0⟩,
    ⟨(some 43), .bin .sub (.c (.p (.o (.int .i64 60)))) (.t 42), none, 0⟩,
    ⟨(some 44), .mks 1 1 [.int .u8 0] (.t 43) (.t 43), none, 0⟩,
    ⟨(some 45), .b2s (.t 44), none, 1⟩,
    ⟨(some 46), .bin .add (.t 40) (.t 45), none, 1⟩,
    ⟨(some 4), .mv (.t 46), none, 1⟩] 1 none) .skip)) (.seq (.reg [
    ⟨(some 47), .mv (.t 4), none, 0⟩,
    ⟨(some 2), .mv (.t 47), none, 0⟩,
    ⟨(some 3), .mv (.c (.p (.o (.int .i64 0)))), none, 0⟩] 0 none) .ret)))))),
  [.tmp 2, .tmp 3], 48, [0, 1, 2, 3, 4]⟩
theorem ok_ref07_Encode : cFn Tryd.prog eqsT newsT vf_ref07_Encode.keep Tryd.f34 = some vf_ref07_Encode := by kernel_rfl
theorem shr_40 (a : Int) : a.fdiv (2 ^ min (Int.toNat 40) IntKind.u64.bits) = a / 1099511627776 := Int.fdiv_eq_ediv_of_nonneg _ (by decide)
/-- Is it a group's address? -/
def grp (m : Int) : Bool := m / 1099511627776 % 2 == 1
abbrev zer (n : Nat) : ByteArray := ⟨(List.replicate n (0 : UInt8)).toArray⟩
abbrev hdr7 (t f k : Int) (d : ByteArray) : ByteArray := Sp.ofB t 6 ++ Sp.ofB f 6 ++ Sp.ofB k 2 ++ d
theorem hdr7_size (t f k : Int) (d : ByteArray) : (hdr7 t f k d).size = 14 + d.size := by unfold hdr7; simp only [ByteArray.size_append, Sp.ofB_size]
/-- A frame's bytes. -/
def enc7 (t f k : Int) (d : ByteArray) : ByteArray := hdr7 t f k d ++ zer (60 - (hdr7 t f k d).size)
def encE (t f : Int) (d : ByteArray) : Int := if t > 281474976710655 ∨ f > 281474976710655 ∨ grp f = true then 2 else if d.size > 65535 then 4 else 0
def encS (t f k : Int) (d : ByteArray) : ByteArray := if t > 281474976710655 ∨ f > 281474976710655 ∨ grp f = true then ⟨#[]⟩ else if d.size > 65535 then ⟨#[]⟩ else enc7 t f k d
theorem zer_size (n : Nat) : (zer n).size = n := by show (List.toArray _).size = n; simp
theorem enc_pad (t f k : Int) (d : ByteArray) : (Sp.ofB t 6 ++ Sp.ofB f 6 ++ Sp.ofB k 2 ++ d) ++ ⟨(List.replicate (60 - ((Sp.ofB t 6 ++ Sp.ofB f 6 ++ Sp.ofB k 2 ++ d).size : Int)).toNat (0 : UInt8)).toArray⟩ = enc7 t f k d := by
  unfold enc7 zer hdr7
  rw [show (60 - ((Sp.ofB t 6 ++ Sp.ofB f 6 ++ Sp.ofB k 2 ++ d).size : Int)).toNat = 60 - (Sp.ofB t 6 ++ Sp.ofB f 6 ++ Sp.ofB k 2 ++ d).size by omega]
theorem rept_zero (n : Nat) : reptB ⟨#[0]⟩ n = zer n := by
  unfold reptB zer
  congr 2
  show Lib.repeatL [0] n = _
  induction n with
  | zero => rfl
  | succ n ih => rw [List.replicate_succ, ← ih]; rfl
theorem enc_a {t f k : Int} {d : ByteArray} (h : t > 281474976710655 ∨ f > 281474976710655 ∨ grp f = true) : V.t [.o (.str ⟨#[]⟩), .o (.int .i64 2)] = .t [.o (.str (encS t f k d)), .o (.int .i64 (encE t f d))] := by unfold encS encE; rw [if_pos h, if_pos h]
theorem enc_b {t f k : Int} {d : ByteArray} (h : ¬ (t > 281474976710655 ∨ f > 281474976710655 ∨ grp f = true)) (h2 : d.size > 65535) : V.t [.o (.str ⟨#[]⟩), .o (.int .i64 4)] = .t [.o (.str (encS t f k d)), .o (.int .i64 (encE t f d))] := by unfold encS encE; rw [if_neg h, if_neg h, if_pos h2, if_pos h2]
theorem enc_c {t f k : Int} {d b : ByteArray} (h : ¬ (t > 281474976710655 ∨ f > 281474976710655 ∨ grp f = true)) (h2 : ¬ d.size > 65535) (hb : b = enc7 t f k d) : V.t [.o (.str b), .o (.int .i64 0)] = .t [.o (.str (encS t f k d)), .o (.int .i64 (encE t f d))] := by unfold encS encE; rw [if_neg h, if_neg h, if_neg h2, if_neg h2, hb]
theorem enc_full (t f k : Int) (d : ByteArray) (h : 46 ≤ d.size) : hdr7 t f k d = enc7 t f k d := by
  unfold enc7
  rw [show 60 - (hdr7 t f k d).size = 0 by rw [hdr7_size]; omega]
  apply ByteArray.ext; apply Array.ext'; simp

set_option maxHeartbeats 1000000 in
theorem grp_det (m : Int) (hm : 0 ≤ m ∧ m ≤ 18446744073709551615) : Det G Tryd.prog 42 [.o (.int .u64 m)] [] (vB (grp m)) [] := by
  refine can_of_W known mix Tryd.func42 (by kernel_rfl) ok_ether_group (Nat.le_of_ble_eq_true rfl) ?_
  repeat' ((conv => whnf); first
    | ((with_reducible refine Look.mk ?_); refine ⟨_, rfl, ?_⟩)
    | ((with_reducible refine LookN.zeros ?_))
    | ((with_reducible refine LookN.bytes ?_ ?_); (simp; done))
    | ((with_reducible refine BytesW.bytes ?_))
    | ((with_reducible refine Look.byte ?_ ?_); omega)
    | ((with_reducible refine Look.setb ?_ ?_ ?_); exact bv8_bd _; omega)
    | ((with_reducible refine LookN.setb ?_ ?_ ?_); exact bv8_bd _; omega)
    | ((with_reducible refine LookN.mk ?_); refine ⟨_, rfl, ?_⟩)
    | ((with_reducible refine Need.mk ?_ ?_); first | ((with_reducible refine needB ?_); kernel_rfl) | with_reducible rfl | omega | (with_reducible refine ⟨rfl, ?_⟩; focus omega) | (simp only [ByteArray.size_append, size_lit, List.size_toArray, List.length_cons, List.length_nil, Sp.ofB_size, ByteArray.size_extract, hdr7_size, List.length_replicate]; omega) | exact rfl | trivial | exact Nat.le_of_ble_eq_true rfl | (exact ⟨rfl, by omega⟩) | (intro h; first | rfl | cases h) | (simp only [lenS_text, lenS_setN, lenS_zeros]; omega))
    | ((with_reducible refine BytesW.mk ?_); refine ⟨_, rfl, ?_⟩)
    | ((with_reducible refine WrT.same ?_ ?_); focus (repeat (first | exact trivial | ((conv => whnf); refine ⟨rfl, ?_⟩))))
    | (with_reducible refine WrT.all ?_)
    | ((with_reducible refine Arith.andu64_1 ?_ ?_); (rw [shr_40]; omega))
    | ((with_reducible refine Test.tmodEqT ?_ ?_ ?_); omega; focus first | omega | assumption)
    | ((with_reducible refine Test.tmodEqF ?_ ?_ ?_); omega; focus first | omega | assumption)
    | ((with_reducible refine Test.tmodNeT ?_ ?_ ?_); omega; focus first | omega | assumption)
    | ((with_reducible refine Test.tmodNeF ?_ ?_ ?_); omega; focus first | omega | assumption)
    | ((with_reducible refine Test.tmodEq ?_ (fun h => ?_) (fun h => ?_)); omega)
    | ((with_reducible refine Test.tmodNe ?_ (fun h => ?_) (fun h => ?_)); omega)
    | ((with_reducible refine Test.notT ?_ ?_); focus assumption)
    | ((with_reducible refine Test.notF ?_ ?_); focus assumption)
    | (with_reducible refine Test.notIe (fun h => ?_) (fun h => ?_))
    | (with_reducible refine Test.notD (fun h => ?_) (fun h => ?_))
    | ((with_reducible refine Test.empty (fun h => ?_) (fun h => ?_)))
    | (with_reducible refine Test.tt ?_)
    | (with_reducible refine Test.ff ?_)
    | ((with_reducible refine Test.dt ?_ ?_); omega)
    | ((with_reducible refine Test.df ?_ ?_); omega)
    | (with_reducible refine Test.d (fun h => ?_) (fun h => ?_))
    | ((with_reducible refine Test.ieT ?_ ?_); omega)
    | ((with_reducible refine Test.ieF ?_ ?_); omega)
    | ((with_reducible refine Test.neT ?_ ?_); omega)
    | ((with_reducible refine Test.neF ?_ ?_); omega)
    | (with_reducible refine Test.ie (fun h => ?_) (fun h => ?_))
    | (with_reducible refine Test.ne (fun h => ?_) (fun h => ?_))
    | ((with_reducible refine Test.b ?_ ?_); (focus first | assumption | (simp [negB]; done) | exact rfl))
    | ((with_reducible refine Test.nb ?_ ?_); (focus first | assumption | (simp [negB]; done) | exact rfl))
    | (with_reducible refine Test.notS (fun h => ?_) (fun h => ?_))
    | (with_reducible refine Test.mk (fun h => ?_) (fun h => ?_))
    | ((with_reducible refine Arith.andu64_1 ?_ ?_); omega)
    | ((with_reducible refine Arith.tdiv ?_ ?_); omega)
    | (with_reducible refine Arith.bv8 ?_)
    | (with_reducible refine Arith.bv16 ?_)
    | (with_reducible refine Arith.bv32 ?_)
    | (with_reducible refine Arith.bv64 ?_)
    | ((with_reducible refine Arith.i64 ?_ ?_); omega)
    | ((with_reducible refine Arith.u64 ?_ ?_); omega)
    | ((with_reducible refine Arith.u32 ?_ ?_); omega)
    | ((with_reducible refine Arith.u16 ?_ ?_); omega)
    | ((with_reducible refine Arith.u8 ?_ ?_); omega)
    | ((with_reducible refine Arith.i32 ?_ ?_); omega)
    | ((with_reducible refine Arith.i64 ?_ ?_); simp (discharger := omega) only [Int.tdiv_eq_ediv_of_nonneg, shr_u8_4, shl_u8_4, shr_u16_4, shl_u16_4, shr_u16_8, shl_u16_8, shr_u32_4, shl_u32_4, shr_u32_8, shl_u32_8, shr_u32_16, shl_u32_16, shr_u32_24, shl_u32_24, shr_u64_4, shl_u64_4, shr_u64_8, shl_u64_8, shr_u64_16, shl_u64_16, shr_u64_24, shl_u64_24, shr_u64_40, shl_u64_40, shr_i64_4, shl_i64_4, shr_i64_8, shl_i64_8, shr_i64_16, shl_i64_16, shr_i64_24, shl_i64_24, shr_i64_40, shl_i64_40]; omega)
    | ((with_reducible refine Arith.u64 ?_ ?_); simp (discharger := omega) only [Int.tdiv_eq_ediv_of_nonneg, shr_u8_4, shl_u8_4, shr_u16_4, shl_u16_4, shr_u16_8, shl_u16_8, shr_u32_4, shl_u32_4, shr_u32_8, shl_u32_8, shr_u32_16, shl_u32_16, shr_u32_24, shl_u32_24, shr_u64_4, shl_u64_4, shr_u64_8, shl_u64_8, shr_u64_16, shl_u64_16, shr_u64_24, shl_u64_24, shr_u64_40, shl_u64_40, shr_i64_4, shl_i64_4, shr_i64_8, shl_i64_8, shr_i64_16, shl_i64_16, shr_i64_24, shl_i64_24, shr_i64_40, shl_i64_40]; omega)
    | ((with_reducible refine Arith.u32 ?_ ?_); simp (discharger := omega) only [Int.tdiv_eq_ediv_of_nonneg, shr_u8_4, shl_u8_4, shr_u16_4, shl_u16_4, shr_u16_8, shl_u16_8, shr_u32_4, shl_u32_4, shr_u32_8, shl_u32_8, shr_u32_16, shl_u32_16, shr_u32_24, shl_u32_24, shr_u64_4, shl_u64_4, shr_u64_8, shl_u64_8, shr_u64_16, shl_u64_16, shr_u64_24, shl_u64_24, shr_u64_40, shl_u64_40, shr_i64_4, shl_i64_4, shr_i64_8, shl_i64_8, shr_i64_16, shl_i64_16, shr_i64_24, shl_i64_24, shr_i64_40, shl_i64_40]; omega)
    | ((with_reducible refine Arith.u16 ?_ ?_); simp (discharger := omega) only [Int.tdiv_eq_ediv_of_nonneg, shr_u8_4, shl_u8_4, shr_u16_4, shl_u16_4, shr_u16_8, shl_u16_8, shr_u32_4, shl_u32_4, shr_u32_8, shl_u32_8, shr_u32_16, shl_u32_16, shr_u32_24, shl_u32_24, shr_u64_4, shl_u64_4, shr_u64_8, shl_u64_8, shr_u64_16, shl_u64_16, shr_u64_24, shl_u64_24, shr_u64_40, shl_u64_40, shr_i64_4, shl_i64_4, shr_i64_8, shl_i64_8, shr_i64_16, shl_i64_16, shr_i64_24, shl_i64_24, shr_i64_40, shl_i64_40]; omega)
    | ((with_reducible refine Arith.u8 ?_ ?_); simp (discharger := omega) only [Int.tdiv_eq_ediv_of_nonneg, shr_u8_4, shl_u8_4, shr_u16_4, shl_u16_4, shr_u16_8, shl_u16_8, shr_u32_4, shl_u32_4, shr_u32_8, shl_u32_8, shr_u32_16, shl_u32_16, shr_u32_24, shl_u32_24, shr_u64_4, shl_u64_4, shr_u64_8, shl_u64_8, shr_u64_16, shl_u64_16, shr_u64_24, shl_u64_24, shr_u64_40, shl_u64_40, shr_i64_4, shl_i64_4, shr_i64_8, shl_i64_8, shr_i64_16, shl_i64_16, shr_i64_24, shl_i64_24, shr_i64_40, shl_i64_40]; omega)
    | (with_reducible refine Arith.mk ?_)
    | (with_reducible refine Ends.mk ?_))
  all_goals first | (refine ⟨?_, rfl⟩; unfold grp; rw [shr_40]; done)
set_option maxHeartbeats 1000000 in
theorem rgrp_det (m : Int) (hm : 0 ≤ m ∧ m ≤ 18446744073709551615) : Det G Tryd.prog 61 [.o (.int .u64 m)] [] (vB (grp m)) [] := by
  refine can_of_W known mix Tryd.func61 (by kernel_rfl) ok_ref07_Group (Nat.le_of_ble_eq_true rfl) ?_
  repeat' ((conv => whnf); first
    | ((with_reducible refine Look.mk ?_); refine ⟨_, rfl, ?_⟩)
    | ((with_reducible refine LookN.zeros ?_))
    | ((with_reducible refine LookN.bytes ?_ ?_); (simp; done))
    | ((with_reducible refine BytesW.bytes ?_))
    | ((with_reducible refine Look.byte ?_ ?_); omega)
    | ((with_reducible refine Look.setb ?_ ?_ ?_); exact bv8_bd _; omega)
    | ((with_reducible refine LookN.setb ?_ ?_ ?_); exact bv8_bd _; omega)
    | ((with_reducible refine LookN.mk ?_); refine ⟨_, rfl, ?_⟩)
    | ((with_reducible refine Need.mk ?_ ?_); first | ((with_reducible refine needB ?_); kernel_rfl) | with_reducible rfl | omega | (with_reducible refine ⟨rfl, ?_⟩; focus omega) | (simp only [ByteArray.size_append, size_lit, List.size_toArray, List.length_cons, List.length_nil, Sp.ofB_size, ByteArray.size_extract, hdr7_size, List.length_replicate]; omega) | exact rfl | trivial | exact Nat.le_of_ble_eq_true rfl | (exact ⟨rfl, by omega⟩) | (intro h; first | rfl | cases h) | (simp only [lenS_text, lenS_setN, lenS_zeros]; omega))
    | ((with_reducible refine BytesW.mk ?_); refine ⟨_, rfl, ?_⟩)
    | ((with_reducible refine WrT.same ?_ ?_); focus (repeat (first | exact trivial | ((conv => whnf); refine ⟨rfl, ?_⟩))))
    | (with_reducible refine WrT.all ?_)
    | ((with_reducible refine Arith.andu64_1 ?_ ?_); (rw [shr_40]; omega))
    | ((with_reducible refine Test.tmodEqT ?_ ?_ ?_); omega; focus first | omega | assumption)
    | ((with_reducible refine Test.tmodEqF ?_ ?_ ?_); omega; focus first | omega | assumption)
    | ((with_reducible refine Test.tmodNeT ?_ ?_ ?_); omega; focus first | omega | assumption)
    | ((with_reducible refine Test.tmodNeF ?_ ?_ ?_); omega; focus first | omega | assumption)
    | ((with_reducible refine Test.tmodEq ?_ (fun h => ?_) (fun h => ?_)); omega)
    | ((with_reducible refine Test.tmodNe ?_ (fun h => ?_) (fun h => ?_)); omega)
    | ((with_reducible refine Test.notT ?_ ?_); focus assumption)
    | ((with_reducible refine Test.notF ?_ ?_); focus assumption)
    | (with_reducible refine Test.notIe (fun h => ?_) (fun h => ?_))
    | (with_reducible refine Test.notD (fun h => ?_) (fun h => ?_))
    | ((with_reducible refine Test.empty (fun h => ?_) (fun h => ?_)))
    | (with_reducible refine Test.tt ?_)
    | (with_reducible refine Test.ff ?_)
    | ((with_reducible refine Test.dt ?_ ?_); omega)
    | ((with_reducible refine Test.df ?_ ?_); omega)
    | (with_reducible refine Test.d (fun h => ?_) (fun h => ?_))
    | ((with_reducible refine Test.ieT ?_ ?_); omega)
    | ((with_reducible refine Test.ieF ?_ ?_); omega)
    | ((with_reducible refine Test.neT ?_ ?_); omega)
    | ((with_reducible refine Test.neF ?_ ?_); omega)
    | (with_reducible refine Test.ie (fun h => ?_) (fun h => ?_))
    | (with_reducible refine Test.ne (fun h => ?_) (fun h => ?_))
    | ((with_reducible refine Test.b ?_ ?_); (focus first | assumption | (simp [negB]; done) | exact rfl))
    | ((with_reducible refine Test.nb ?_ ?_); (focus first | assumption | (simp [negB]; done) | exact rfl))
    | (with_reducible refine Test.notS (fun h => ?_) (fun h => ?_))
    | (with_reducible refine Test.mk (fun h => ?_) (fun h => ?_))
    | ((with_reducible refine Arith.andu64_1 ?_ ?_); omega)
    | ((with_reducible refine Arith.tdiv ?_ ?_); omega)
    | (with_reducible refine Arith.bv8 ?_)
    | (with_reducible refine Arith.bv16 ?_)
    | (with_reducible refine Arith.bv32 ?_)
    | (with_reducible refine Arith.bv64 ?_)
    | ((with_reducible refine Arith.i64 ?_ ?_); omega)
    | ((with_reducible refine Arith.u64 ?_ ?_); omega)
    | ((with_reducible refine Arith.u32 ?_ ?_); omega)
    | ((with_reducible refine Arith.u16 ?_ ?_); omega)
    | ((with_reducible refine Arith.u8 ?_ ?_); omega)
    | ((with_reducible refine Arith.i32 ?_ ?_); omega)
    | ((with_reducible refine Arith.i64 ?_ ?_); simp (discharger := omega) only [Int.tdiv_eq_ediv_of_nonneg, shr_u8_4, shl_u8_4, shr_u16_4, shl_u16_4, shr_u16_8, shl_u16_8, shr_u32_4, shl_u32_4, shr_u32_8, shl_u32_8, shr_u32_16, shl_u32_16, shr_u32_24, shl_u32_24, shr_u64_4, shl_u64_4, shr_u64_8, shl_u64_8, shr_u64_16, shl_u64_16, shr_u64_24, shl_u64_24, shr_u64_40, shl_u64_40, shr_i64_4, shl_i64_4, shr_i64_8, shl_i64_8, shr_i64_16, shl_i64_16, shr_i64_24, shl_i64_24, shr_i64_40, shl_i64_40]; omega)
    | ((with_reducible refine Arith.u64 ?_ ?_); simp (discharger := omega) only [Int.tdiv_eq_ediv_of_nonneg, shr_u8_4, shl_u8_4, shr_u16_4, shl_u16_4, shr_u16_8, shl_u16_8, shr_u32_4, shl_u32_4, shr_u32_8, shl_u32_8, shr_u32_16, shl_u32_16, shr_u32_24, shl_u32_24, shr_u64_4, shl_u64_4, shr_u64_8, shl_u64_8, shr_u64_16, shl_u64_16, shr_u64_24, shl_u64_24, shr_u64_40, shl_u64_40, shr_i64_4, shl_i64_4, shr_i64_8, shl_i64_8, shr_i64_16, shl_i64_16, shr_i64_24, shl_i64_24, shr_i64_40, shl_i64_40]; omega)
    | ((with_reducible refine Arith.u32 ?_ ?_); simp (discharger := omega) only [Int.tdiv_eq_ediv_of_nonneg, shr_u8_4, shl_u8_4, shr_u16_4, shl_u16_4, shr_u16_8, shl_u16_8, shr_u32_4, shl_u32_4, shr_u32_8, shl_u32_8, shr_u32_16, shl_u32_16, shr_u32_24, shl_u32_24, shr_u64_4, shl_u64_4, shr_u64_8, shl_u64_8, shr_u64_16, shl_u64_16, shr_u64_24, shl_u64_24, shr_u64_40, shl_u64_40, shr_i64_4, shl_i64_4, shr_i64_8, shl_i64_8, shr_i64_16, shl_i64_16, shr_i64_24, shl_i64_24, shr_i64_40, shl_i64_40]; omega)
    | ((with_reducible refine Arith.u16 ?_ ?_); simp (discharger := omega) only [Int.tdiv_eq_ediv_of_nonneg, shr_u8_4, shl_u8_4, shr_u16_4, shl_u16_4, shr_u16_8, shl_u16_8, shr_u32_4, shl_u32_4, shr_u32_8, shl_u32_8, shr_u32_16, shl_u32_16, shr_u32_24, shl_u32_24, shr_u64_4, shl_u64_4, shr_u64_8, shl_u64_8, shr_u64_16, shl_u64_16, shr_u64_24, shl_u64_24, shr_u64_40, shl_u64_40, shr_i64_4, shl_i64_4, shr_i64_8, shl_i64_8, shr_i64_16, shl_i64_16, shr_i64_24, shl_i64_24, shr_i64_40, shl_i64_40]; omega)
    | ((with_reducible refine Arith.u8 ?_ ?_); simp (discharger := omega) only [Int.tdiv_eq_ediv_of_nonneg, shr_u8_4, shl_u8_4, shr_u16_4, shl_u16_4, shr_u16_8, shl_u16_8, shr_u32_4, shl_u32_4, shr_u32_8, shl_u32_8, shr_u32_16, shl_u32_16, shr_u32_24, shl_u32_24, shr_u64_4, shl_u64_4, shr_u64_8, shl_u64_8, shr_u64_16, shl_u64_16, shr_u64_24, shl_u64_24, shr_u64_40, shl_u64_40, shr_i64_4, shl_i64_4, shr_i64_8, shl_i64_8, shr_i64_16, shl_i64_16, shr_i64_24, shl_i64_24, shr_i64_40, shl_i64_40]; omega)
    | (with_reducible refine Arith.mk ?_)
    | (with_reducible refine Ends.mk ?_))
  all_goals first | (refine ⟨?_, rfl⟩; unfold grp; rw [shr_40]; done)
def forB (t m : Int) : Bool := decide (t = m ∨ t = 281474976710655)
set_option maxHeartbeats 1000000 in
theorem for_det (t f k : Int) (d : ByteArray) (m : Int) : Det G Tryd.prog 40 [.a [.int .u64 t, .int .u64 f, .int .u16 k, .str d], .o (.int .u64 m)] [] (vB (forB t m)) [] := by
  refine can_of_W known mix Tryd.func40 (by kernel_rfl) ok_ether_For (Nat.le_of_ble_eq_true rfl) ?_
  repeat' ((conv => whnf); first
    | ((with_reducible refine Look.mk ?_); refine ⟨_, rfl, ?_⟩)
    | ((with_reducible refine LookN.zeros ?_))
    | ((with_reducible refine LookN.bytes ?_ ?_); (simp; done))
    | ((with_reducible refine BytesW.bytes ?_))
    | ((with_reducible refine Look.byte ?_ ?_); omega)
    | ((with_reducible refine Look.setb ?_ ?_ ?_); exact bv8_bd _; omega)
    | ((with_reducible refine LookN.setb ?_ ?_ ?_); exact bv8_bd _; omega)
    | ((with_reducible refine LookN.mk ?_); refine ⟨_, rfl, ?_⟩)
    | ((with_reducible refine Need.mk ?_ ?_); first | ((with_reducible refine needB ?_); kernel_rfl) | with_reducible rfl | omega | (with_reducible refine ⟨rfl, ?_⟩; focus omega) | (simp only [ByteArray.size_append, size_lit, List.size_toArray, List.length_cons, List.length_nil, Sp.ofB_size, ByteArray.size_extract, hdr7_size, List.length_replicate]; omega) | exact rfl | trivial | exact Nat.le_of_ble_eq_true rfl | (exact ⟨rfl, by omega⟩) | (intro h; first | rfl | cases h) | (simp only [lenS_text, lenS_setN, lenS_zeros]; omega))
    | ((with_reducible refine BytesW.mk ?_); refine ⟨_, rfl, ?_⟩)
    | ((with_reducible refine WrT.same ?_ ?_); focus (repeat (first | exact trivial | ((conv => whnf); refine ⟨rfl, ?_⟩))))
    | (with_reducible refine WrT.all ?_)
    | ((with_reducible refine Test.tmodEqT ?_ ?_ ?_); omega; focus first | omega | assumption)
    | ((with_reducible refine Test.tmodEqF ?_ ?_ ?_); omega; focus first | omega | assumption)
    | ((with_reducible refine Test.tmodNeT ?_ ?_ ?_); omega; focus first | omega | assumption)
    | ((with_reducible refine Test.tmodNeF ?_ ?_ ?_); omega; focus first | omega | assumption)
    | ((with_reducible refine Test.tmodEq ?_ (fun h => ?_) (fun h => ?_)); omega)
    | ((with_reducible refine Test.tmodNe ?_ (fun h => ?_) (fun h => ?_)); omega)
    | ((with_reducible refine Test.notT ?_ ?_); focus assumption)
    | ((with_reducible refine Test.notF ?_ ?_); focus assumption)
    | (with_reducible refine Test.notIe (fun h => ?_) (fun h => ?_))
    | (with_reducible refine Test.notD (fun h => ?_) (fun h => ?_))
    | ((with_reducible refine Test.empty (fun h => ?_) (fun h => ?_)))
    | (with_reducible refine Test.tt ?_)
    | (with_reducible refine Test.ff ?_)
    | ((with_reducible refine Test.dt ?_ ?_); omega)
    | ((with_reducible refine Test.df ?_ ?_); omega)
    | (with_reducible refine Test.d (fun h => ?_) (fun h => ?_))
    | ((with_reducible refine Test.ieT ?_ ?_); omega)
    | ((with_reducible refine Test.ieF ?_ ?_); omega)
    | ((with_reducible refine Test.neT ?_ ?_); omega)
    | ((with_reducible refine Test.neF ?_ ?_); omega)
    | (with_reducible refine Test.ie (fun h => ?_) (fun h => ?_))
    | (with_reducible refine Test.ne (fun h => ?_) (fun h => ?_))
    | ((with_reducible refine Test.b ?_ ?_); (focus first | assumption | (simp [negB]; done) | exact rfl))
    | ((with_reducible refine Test.nb ?_ ?_); (focus first | assumption | (simp [negB]; done) | exact rfl))
    | (with_reducible refine Test.notS (fun h => ?_) (fun h => ?_))
    | (with_reducible refine Test.mk (fun h => ?_) (fun h => ?_))
    | ((with_reducible refine Arith.andu64_1 ?_ ?_); omega)
    | ((with_reducible refine Arith.tdiv ?_ ?_); omega)
    | (with_reducible refine Arith.bv8 ?_)
    | (with_reducible refine Arith.bv16 ?_)
    | (with_reducible refine Arith.bv32 ?_)
    | (with_reducible refine Arith.bv64 ?_)
    | ((with_reducible refine Arith.i64 ?_ ?_); omega)
    | ((with_reducible refine Arith.u64 ?_ ?_); omega)
    | ((with_reducible refine Arith.u32 ?_ ?_); omega)
    | ((with_reducible refine Arith.u16 ?_ ?_); omega)
    | ((with_reducible refine Arith.u8 ?_ ?_); omega)
    | ((with_reducible refine Arith.i32 ?_ ?_); omega)
    | ((with_reducible refine Arith.i64 ?_ ?_); simp (discharger := omega) only [Int.tdiv_eq_ediv_of_nonneg, shr_u8_4, shl_u8_4, shr_u16_4, shl_u16_4, shr_u16_8, shl_u16_8, shr_u32_4, shl_u32_4, shr_u32_8, shl_u32_8, shr_u32_16, shl_u32_16, shr_u32_24, shl_u32_24, shr_u64_4, shl_u64_4, shr_u64_8, shl_u64_8, shr_u64_16, shl_u64_16, shr_u64_24, shl_u64_24, shr_u64_40, shl_u64_40, shr_i64_4, shl_i64_4, shr_i64_8, shl_i64_8, shr_i64_16, shl_i64_16, shr_i64_24, shl_i64_24, shr_i64_40, shl_i64_40]; omega)
    | ((with_reducible refine Arith.u64 ?_ ?_); simp (discharger := omega) only [Int.tdiv_eq_ediv_of_nonneg, shr_u8_4, shl_u8_4, shr_u16_4, shl_u16_4, shr_u16_8, shl_u16_8, shr_u32_4, shl_u32_4, shr_u32_8, shl_u32_8, shr_u32_16, shl_u32_16, shr_u32_24, shl_u32_24, shr_u64_4, shl_u64_4, shr_u64_8, shl_u64_8, shr_u64_16, shl_u64_16, shr_u64_24, shl_u64_24, shr_u64_40, shl_u64_40, shr_i64_4, shl_i64_4, shr_i64_8, shl_i64_8, shr_i64_16, shl_i64_16, shr_i64_24, shl_i64_24, shr_i64_40, shl_i64_40]; omega)
    | ((with_reducible refine Arith.u32 ?_ ?_); simp (discharger := omega) only [Int.tdiv_eq_ediv_of_nonneg, shr_u8_4, shl_u8_4, shr_u16_4, shl_u16_4, shr_u16_8, shl_u16_8, shr_u32_4, shl_u32_4, shr_u32_8, shl_u32_8, shr_u32_16, shl_u32_16, shr_u32_24, shl_u32_24, shr_u64_4, shl_u64_4, shr_u64_8, shl_u64_8, shr_u64_16, shl_u64_16, shr_u64_24, shl_u64_24, shr_u64_40, shl_u64_40, shr_i64_4, shl_i64_4, shr_i64_8, shl_i64_8, shr_i64_16, shl_i64_16, shr_i64_24, shl_i64_24, shr_i64_40, shl_i64_40]; omega)
    | ((with_reducible refine Arith.u16 ?_ ?_); simp (discharger := omega) only [Int.tdiv_eq_ediv_of_nonneg, shr_u8_4, shl_u8_4, shr_u16_4, shl_u16_4, shr_u16_8, shl_u16_8, shr_u32_4, shl_u32_4, shr_u32_8, shl_u32_8, shr_u32_16, shl_u32_16, shr_u32_24, shl_u32_24, shr_u64_4, shl_u64_4, shr_u64_8, shl_u64_8, shr_u64_16, shl_u64_16, shr_u64_24, shl_u64_24, shr_u64_40, shl_u64_40, shr_i64_4, shl_i64_4, shr_i64_8, shl_i64_8, shr_i64_16, shl_i64_16, shr_i64_24, shl_i64_24, shr_i64_40, shl_i64_40]; omega)
    | ((with_reducible refine Arith.u8 ?_ ?_); simp (discharger := omega) only [Int.tdiv_eq_ediv_of_nonneg, shr_u8_4, shl_u8_4, shr_u16_4, shl_u16_4, shr_u16_8, shl_u16_8, shr_u32_4, shl_u32_4, shr_u32_8, shl_u32_8, shr_u32_16, shl_u32_16, shr_u32_24, shl_u32_24, shr_u64_4, shl_u64_4, shr_u64_8, shl_u64_8, shr_u64_16, shl_u64_16, shr_u64_24, shl_u64_24, shr_u64_40, shl_u64_40, shr_i64_4, shl_i64_4, shr_i64_8, shl_i64_8, shr_i64_16, shl_i64_16, shr_i64_24, shl_i64_24, shr_i64_40, shl_i64_40]; omega)
    | (with_reducible refine Arith.mk ?_)
    | (with_reducible refine Ends.mk ?_))
  all_goals first | (refine ⟨congrArg (fun b => V.p (.o (.bool b))) ?_, rfl⟩; unfold forB; by_cases h1 : t = m <;> by_cases h2 : t = 281474976710655 <;> simp_all; done)
set_option maxHeartbeats 1000000 in
theorem rfor_det (t f k : Int) (d : ByteArray) (m : Int) : Det G Tryd.prog 41 [.a [.int .u64 t, .int .u64 f, .int .u16 k, .str d], .o (.int .u64 m)] [] (vB (forB t m)) [] := by
  refine can_of_W known mix Tryd.func41 (by kernel_rfl) ok_ref07_For (Nat.le_of_ble_eq_true rfl) ?_
  repeat' ((conv => whnf); first
    | ((with_reducible refine Look.mk ?_); refine ⟨_, rfl, ?_⟩)
    | ((with_reducible refine LookN.zeros ?_))
    | ((with_reducible refine LookN.bytes ?_ ?_); (simp; done))
    | ((with_reducible refine BytesW.bytes ?_))
    | ((with_reducible refine Look.byte ?_ ?_); omega)
    | ((with_reducible refine Look.setb ?_ ?_ ?_); exact bv8_bd _; omega)
    | ((with_reducible refine LookN.setb ?_ ?_ ?_); exact bv8_bd _; omega)
    | ((with_reducible refine LookN.mk ?_); refine ⟨_, rfl, ?_⟩)
    | ((with_reducible refine Need.mk ?_ ?_); first | ((with_reducible refine needB ?_); kernel_rfl) | with_reducible rfl | omega | (with_reducible refine ⟨rfl, ?_⟩; focus omega) | (simp only [ByteArray.size_append, size_lit, List.size_toArray, List.length_cons, List.length_nil, Sp.ofB_size, ByteArray.size_extract, hdr7_size, List.length_replicate]; omega) | exact rfl | trivial | exact Nat.le_of_ble_eq_true rfl | (exact ⟨rfl, by omega⟩) | (intro h; first | rfl | cases h) | (simp only [lenS_text, lenS_setN, lenS_zeros]; omega))
    | ((with_reducible refine BytesW.mk ?_); refine ⟨_, rfl, ?_⟩)
    | ((with_reducible refine WrT.same ?_ ?_); focus (repeat (first | exact trivial | ((conv => whnf); refine ⟨rfl, ?_⟩))))
    | (with_reducible refine WrT.all ?_)
    | ((with_reducible refine Test.tmodEqT ?_ ?_ ?_); omega; focus first | omega | assumption)
    | ((with_reducible refine Test.tmodEqF ?_ ?_ ?_); omega; focus first | omega | assumption)
    | ((with_reducible refine Test.tmodNeT ?_ ?_ ?_); omega; focus first | omega | assumption)
    | ((with_reducible refine Test.tmodNeF ?_ ?_ ?_); omega; focus first | omega | assumption)
    | ((with_reducible refine Test.tmodEq ?_ (fun h => ?_) (fun h => ?_)); omega)
    | ((with_reducible refine Test.tmodNe ?_ (fun h => ?_) (fun h => ?_)); omega)
    | ((with_reducible refine Test.notT ?_ ?_); focus assumption)
    | ((with_reducible refine Test.notF ?_ ?_); focus assumption)
    | (with_reducible refine Test.notIe (fun h => ?_) (fun h => ?_))
    | (with_reducible refine Test.notD (fun h => ?_) (fun h => ?_))
    | ((with_reducible refine Test.empty (fun h => ?_) (fun h => ?_)))
    | (with_reducible refine Test.tt ?_)
    | (with_reducible refine Test.ff ?_)
    | ((with_reducible refine Test.dt ?_ ?_); omega)
    | ((with_reducible refine Test.df ?_ ?_); omega)
    | (with_reducible refine Test.d (fun h => ?_) (fun h => ?_))
    | ((with_reducible refine Test.ieT ?_ ?_); omega)
    | ((with_reducible refine Test.ieF ?_ ?_); omega)
    | ((with_reducible refine Test.neT ?_ ?_); omega)
    | ((with_reducible refine Test.neF ?_ ?_); omega)
    | (with_reducible refine Test.ie (fun h => ?_) (fun h => ?_))
    | (with_reducible refine Test.ne (fun h => ?_) (fun h => ?_))
    | ((with_reducible refine Test.b ?_ ?_); (focus first | assumption | (simp [negB]; done) | exact rfl))
    | ((with_reducible refine Test.nb ?_ ?_); (focus first | assumption | (simp [negB]; done) | exact rfl))
    | (with_reducible refine Test.notS (fun h => ?_) (fun h => ?_))
    | (with_reducible refine Test.mk (fun h => ?_) (fun h => ?_))
    | ((with_reducible refine Arith.andu64_1 ?_ ?_); omega)
    | ((with_reducible refine Arith.tdiv ?_ ?_); omega)
    | (with_reducible refine Arith.bv8 ?_)
    | (with_reducible refine Arith.bv16 ?_)
    | (with_reducible refine Arith.bv32 ?_)
    | (with_reducible refine Arith.bv64 ?_)
    | ((with_reducible refine Arith.i64 ?_ ?_); omega)
    | ((with_reducible refine Arith.u64 ?_ ?_); omega)
    | ((with_reducible refine Arith.u32 ?_ ?_); omega)
    | ((with_reducible refine Arith.u16 ?_ ?_); omega)
    | ((with_reducible refine Arith.u8 ?_ ?_); omega)
    | ((with_reducible refine Arith.i32 ?_ ?_); omega)
    | ((with_reducible refine Arith.i64 ?_ ?_); simp (discharger := omega) only [Int.tdiv_eq_ediv_of_nonneg, shr_u8_4, shl_u8_4, shr_u16_4, shl_u16_4, shr_u16_8, shl_u16_8, shr_u32_4, shl_u32_4, shr_u32_8, shl_u32_8, shr_u32_16, shl_u32_16, shr_u32_24, shl_u32_24, shr_u64_4, shl_u64_4, shr_u64_8, shl_u64_8, shr_u64_16, shl_u64_16, shr_u64_24, shl_u64_24, shr_u64_40, shl_u64_40, shr_i64_4, shl_i64_4, shr_i64_8, shl_i64_8, shr_i64_16, shl_i64_16, shr_i64_24, shl_i64_24, shr_i64_40, shl_i64_40]; omega)
    | ((with_reducible refine Arith.u64 ?_ ?_); simp (discharger := omega) only [Int.tdiv_eq_ediv_of_nonneg, shr_u8_4, shl_u8_4, shr_u16_4, shl_u16_4, shr_u16_8, shl_u16_8, shr_u32_4, shl_u32_4, shr_u32_8, shl_u32_8, shr_u32_16, shl_u32_16, shr_u32_24, shl_u32_24, shr_u64_4, shl_u64_4, shr_u64_8, shl_u64_8, shr_u64_16, shl_u64_16, shr_u64_24, shl_u64_24, shr_u64_40, shl_u64_40, shr_i64_4, shl_i64_4, shr_i64_8, shl_i64_8, shr_i64_16, shl_i64_16, shr_i64_24, shl_i64_24, shr_i64_40, shl_i64_40]; omega)
    | ((with_reducible refine Arith.u32 ?_ ?_); simp (discharger := omega) only [Int.tdiv_eq_ediv_of_nonneg, shr_u8_4, shl_u8_4, shr_u16_4, shl_u16_4, shr_u16_8, shl_u16_8, shr_u32_4, shl_u32_4, shr_u32_8, shl_u32_8, shr_u32_16, shl_u32_16, shr_u32_24, shl_u32_24, shr_u64_4, shl_u64_4, shr_u64_8, shl_u64_8, shr_u64_16, shl_u64_16, shr_u64_24, shl_u64_24, shr_u64_40, shl_u64_40, shr_i64_4, shl_i64_4, shr_i64_8, shl_i64_8, shr_i64_16, shl_i64_16, shr_i64_24, shl_i64_24, shr_i64_40, shl_i64_40]; omega)
    | ((with_reducible refine Arith.u16 ?_ ?_); simp (discharger := omega) only [Int.tdiv_eq_ediv_of_nonneg, shr_u8_4, shl_u8_4, shr_u16_4, shl_u16_4, shr_u16_8, shl_u16_8, shr_u32_4, shl_u32_4, shr_u32_8, shl_u32_8, shr_u32_16, shl_u32_16, shr_u32_24, shl_u32_24, shr_u64_4, shl_u64_4, shr_u64_8, shl_u64_8, shr_u64_16, shl_u64_16, shr_u64_24, shl_u64_24, shr_u64_40, shl_u64_40, shr_i64_4, shl_i64_4, shr_i64_8, shl_i64_8, shr_i64_16, shl_i64_16, shr_i64_24, shl_i64_24, shr_i64_40, shl_i64_40]; omega)
    | ((with_reducible refine Arith.u8 ?_ ?_); simp (discharger := omega) only [Int.tdiv_eq_ediv_of_nonneg, shr_u8_4, shl_u8_4, shr_u16_4, shl_u16_4, shr_u16_8, shl_u16_8, shr_u32_4, shl_u32_4, shr_u32_8, shl_u32_8, shr_u32_16, shl_u32_16, shr_u32_24, shl_u32_24, shr_u64_4, shl_u64_4, shr_u64_8, shl_u64_8, shr_u64_16, shl_u64_16, shr_u64_24, shl_u64_24, shr_u64_40, shl_u64_40, shr_i64_4, shl_i64_4, shr_i64_8, shl_i64_8, shr_i64_16, shl_i64_16, shr_i64_24, shl_i64_24, shr_i64_40, shl_i64_40]; omega)
    | (with_reducible refine Arith.mk ?_)
    | (with_reducible refine Ends.mk ?_))
  all_goals first | (refine ⟨congrArg (fun b => V.p (.o (.bool b))) ?_, rfl⟩; unfold forB; by_cases h1 : t = m <;> by_cases h2 : t = 281474976710655 <;> simp_all; done)
theorem rept_zer (n : Int) (h : 0 ≤ n ∧ n ≤ 60) : Det G Tryd.prog 44 [.o (.str ⟨#[0]⟩), .o (.int .i64 n)] [] (vS (zer n.toNat)) [] := by
  obtain ⟨k, rfl⟩ := Int.eq_ofNat_of_zero_le h.1
  match k, h with
  | 0, _ => exact rept_det0 _
  | 1, _ => exact rept_det1 _
  | k + 2, h =>
    have := rept_det (G := G) ⟨#[0]⟩ (k + 2) (by omega) (by omega) (by decide) (by show 1 * (k + 2) ≤ _; omega)
    rw [rept_zero] at this; exact this

theorem rept_pad (t f k : Int) (d : ByteArray) : Det G Tryd.prog 44 [.o (.str ⟨#[0]⟩), .o (.int .i64 (max 0 (60 - ((hdr7 t f k d).size : Int))))] [] (vS (zer (60 - (hdr7 t f k d).size))) [] := by
  have h := rept_zer (G := G) (max 0 (60 - ((hdr7 t f k d).size : Int))) (by omega)
  rw [show (max 0 (60 - ((hdr7 t f k d).size : Int))).toNat = 60 - (hdr7 t f k d).size by omega] at h; exact h
set_option maxHeartbeats 4000000 in
theorem enc_det (t f k : Int) (d : ByteArray) (ht : 0 ≤ t ∧ t ≤ 18446744073709551615) (hf : 0 ≤ f ∧ f ≤ 18446744073709551615) (hk : 0 ≤ k ∧ k ≤ 65535) (hd : d.size ≤ 1000000) : Det G Tryd.prog 13 [.a [.int .u64 t, .int .u64 f, .int .u16 k, .str d]] [] (.t [.o (.str (encS t f k d)), .o (.int .i64 (encE t f d))]) [] := by
  have hz : (Sp.ofB t 6 ++ Sp.ofB f 6 ++ Sp.ofB k 2 ++ d).size = 14 + d.size := hdr7_size t f k d
  refine can_of_W known mix Tryd.func13 (by kernel_rfl) ok_ether_Encode (Nat.le_of_ble_eq_true rfl) ?_
  repeat' ((conv => whnf); first
    | ((with_reducible refine Look.mk ?_); refine ⟨_, rfl, ?_⟩)
    | ((with_reducible refine LookN.zeros ?_))
    | ((with_reducible refine LookN.bytes ?_ ?_); (simp; done))
    | ((with_reducible refine BytesW.bytes ?_))
    | ((with_reducible refine Look.byte ?_ ?_); omega)
    | ((with_reducible refine Look.setb ?_ ?_ ?_); exact bv8_bd _; omega)
    | ((with_reducible refine LookN.setb ?_ ?_ ?_); exact bv8_bd _; omega)
    | ((with_reducible refine LookN.mk ?_); refine ⟨_, rfl, ?_⟩)
    | ((with_reducible refine Need.mk ?_ ?_); first | ((with_reducible refine needB ?_); kernel_rfl) | with_reducible rfl | omega | (with_reducible refine ⟨rfl, ?_⟩; focus omega) | (simp only [ByteArray.size_append, size_lit, List.size_toArray, List.length_cons, List.length_nil, Sp.ofB_size, ByteArray.size_extract, hdr7_size, List.length_replicate]; omega) | exact rfl | trivial | exact Nat.le_of_ble_eq_true rfl | (exact ⟨rfl, by omega⟩) | (intro h; first | rfl | cases h) | (simp only [lenS_text, lenS_setN, lenS_zeros]; omega))
    | ((with_reducible refine BytesW.mk ?_); refine ⟨_, rfl, ?_⟩)
    | (with_reducible refine CallW.det (grp_det _ (by omega)) ?_)
    | (with_reducible refine CallW.det (wordOf6 _ (by omega)) ?_)
    | (with_reducible refine CallW.det (wordOf2 _ (by omega)) ?_)
    | (with_reducible refine CallW.det (rept_pad t f k d) ?_)
    | ((with_reducible refine WrT.same ?_ ?_); focus (repeat (first | exact trivial | ((conv => whnf); refine ⟨rfl, ?_⟩))))
    | (with_reducible refine WrT.all ?_)
    | ((with_reducible refine Test.tmodEqT ?_ ?_ ?_); omega; focus first | omega | assumption)
    | ((with_reducible refine Test.tmodEqF ?_ ?_ ?_); omega; focus first | omega | assumption)
    | ((with_reducible refine Test.tmodNeT ?_ ?_ ?_); omega; focus first | omega | assumption)
    | ((with_reducible refine Test.tmodNeF ?_ ?_ ?_); omega; focus first | omega | assumption)
    | ((with_reducible refine Test.tmodEq ?_ (fun h => ?_) (fun h => ?_)); omega)
    | ((with_reducible refine Test.tmodNe ?_ (fun h => ?_) (fun h => ?_)); omega)
    | ((with_reducible refine Test.notT ?_ ?_); focus assumption)
    | ((with_reducible refine Test.notF ?_ ?_); focus assumption)
    | (with_reducible refine Test.notIe (fun h => ?_) (fun h => ?_))
    | (with_reducible refine Test.notD (fun h => ?_) (fun h => ?_))
    | ((with_reducible refine Test.empty (fun h => ?_) (fun h => ?_)))
    | (with_reducible refine Test.tt ?_)
    | (with_reducible refine Test.ff ?_)
    | ((with_reducible refine Test.dt ?_ ?_); omega)
    | ((with_reducible refine Test.df ?_ ?_); omega)
    | (with_reducible refine Test.d (fun h => ?_) (fun h => ?_))
    | ((with_reducible refine Test.ieT ?_ ?_); omega)
    | ((with_reducible refine Test.ieF ?_ ?_); omega)
    | ((with_reducible refine Test.neT ?_ ?_); omega)
    | ((with_reducible refine Test.neF ?_ ?_); omega)
    | (with_reducible refine Test.ie (fun h => ?_) (fun h => ?_))
    | (with_reducible refine Test.ne (fun h => ?_) (fun h => ?_))
    | ((with_reducible refine Test.b ?_ ?_); (focus first | assumption | (simp [negB]; done) | exact rfl))
    | ((with_reducible refine Test.nb ?_ ?_); (focus first | assumption | (simp [negB]; done) | exact rfl))
    | (with_reducible refine Test.notS (fun h => ?_) (fun h => ?_))
    | (with_reducible refine Test.mk (fun h => ?_) (fun h => ?_))
    | ((with_reducible refine Arith.andu64_1 ?_ ?_); omega)
    | ((with_reducible refine Arith.tdiv ?_ ?_); omega)
    | (with_reducible refine Arith.bv8 ?_)
    | (with_reducible refine Arith.bv16 ?_)
    | (with_reducible refine Arith.bv32 ?_)
    | (with_reducible refine Arith.bv64 ?_)
    | ((with_reducible refine Arith.i64 ?_ ?_); omega)
    | ((with_reducible refine Arith.u64 ?_ ?_); omega)
    | ((with_reducible refine Arith.u32 ?_ ?_); omega)
    | ((with_reducible refine Arith.u16 ?_ ?_); omega)
    | ((with_reducible refine Arith.u8 ?_ ?_); omega)
    | ((with_reducible refine Arith.i32 ?_ ?_); omega)
    | ((with_reducible refine Arith.i64 ?_ ?_); simp (discharger := omega) only [Int.tdiv_eq_ediv_of_nonneg, shr_u8_4, shl_u8_4, shr_u16_4, shl_u16_4, shr_u16_8, shl_u16_8, shr_u32_4, shl_u32_4, shr_u32_8, shl_u32_8, shr_u32_16, shl_u32_16, shr_u32_24, shl_u32_24, shr_u64_4, shl_u64_4, shr_u64_8, shl_u64_8, shr_u64_16, shl_u64_16, shr_u64_24, shl_u64_24, shr_u64_40, shl_u64_40, shr_i64_4, shl_i64_4, shr_i64_8, shl_i64_8, shr_i64_16, shl_i64_16, shr_i64_24, shl_i64_24, shr_i64_40, shl_i64_40]; omega)
    | ((with_reducible refine Arith.u64 ?_ ?_); simp (discharger := omega) only [Int.tdiv_eq_ediv_of_nonneg, shr_u8_4, shl_u8_4, shr_u16_4, shl_u16_4, shr_u16_8, shl_u16_8, shr_u32_4, shl_u32_4, shr_u32_8, shl_u32_8, shr_u32_16, shl_u32_16, shr_u32_24, shl_u32_24, shr_u64_4, shl_u64_4, shr_u64_8, shl_u64_8, shr_u64_16, shl_u64_16, shr_u64_24, shl_u64_24, shr_u64_40, shl_u64_40, shr_i64_4, shl_i64_4, shr_i64_8, shl_i64_8, shr_i64_16, shl_i64_16, shr_i64_24, shl_i64_24, shr_i64_40, shl_i64_40]; omega)
    | ((with_reducible refine Arith.u32 ?_ ?_); simp (discharger := omega) only [Int.tdiv_eq_ediv_of_nonneg, shr_u8_4, shl_u8_4, shr_u16_4, shl_u16_4, shr_u16_8, shl_u16_8, shr_u32_4, shl_u32_4, shr_u32_8, shl_u32_8, shr_u32_16, shl_u32_16, shr_u32_24, shl_u32_24, shr_u64_4, shl_u64_4, shr_u64_8, shl_u64_8, shr_u64_16, shl_u64_16, shr_u64_24, shl_u64_24, shr_u64_40, shl_u64_40, shr_i64_4, shl_i64_4, shr_i64_8, shl_i64_8, shr_i64_16, shl_i64_16, shr_i64_24, shl_i64_24, shr_i64_40, shl_i64_40]; omega)
    | ((with_reducible refine Arith.u16 ?_ ?_); simp (discharger := omega) only [Int.tdiv_eq_ediv_of_nonneg, shr_u8_4, shl_u8_4, shr_u16_4, shl_u16_4, shr_u16_8, shl_u16_8, shr_u32_4, shl_u32_4, shr_u32_8, shl_u32_8, shr_u32_16, shl_u32_16, shr_u32_24, shl_u32_24, shr_u64_4, shl_u64_4, shr_u64_8, shl_u64_8, shr_u64_16, shl_u64_16, shr_u64_24, shl_u64_24, shr_u64_40, shl_u64_40, shr_i64_4, shl_i64_4, shr_i64_8, shl_i64_8, shr_i64_16, shl_i64_16, shr_i64_24, shl_i64_24, shr_i64_40, shl_i64_40]; omega)
    | ((with_reducible refine Arith.u8 ?_ ?_); simp (discharger := omega) only [Int.tdiv_eq_ediv_of_nonneg, shr_u8_4, shl_u8_4, shr_u16_4, shl_u16_4, shr_u16_8, shl_u16_8, shr_u32_4, shl_u32_4, shr_u32_8, shl_u32_8, shr_u32_16, shl_u32_16, shr_u32_24, shl_u32_24, shr_u64_4, shl_u64_4, shr_u64_8, shl_u64_8, shr_u64_16, shl_u64_16, shr_u64_24, shl_u64_24, shr_u64_40, shl_u64_40, shr_i64_4, shl_i64_4, shr_i64_8, shl_i64_8, shr_i64_16, shl_i64_16, shr_i64_24, shl_i64_24, shr_i64_40, shl_i64_40]; omega)
    | (with_reducible refine Arith.mk ?_)
    | (with_reducible refine Ends.mk ?_))
  all_goals first
    | (refine ⟨enc_a ?_, rfl⟩; first | exact .inl (by omega) | exact .inr (.inl (by omega)) | exact .inr (.inr (by assumption)))
    | (refine ⟨enc_b (fun hh => by rcases hh with hh | hh | hh <;> first | omega | simp_all) (by omega), rfl⟩; done)
    | (refine ⟨enc_c (fun hh => by rcases hh with hh | hh | hh <;> first | omega | simp_all) (by omega) ?_, rfl⟩; rfl)
    | (refine ⟨enc_c (fun hh => by rcases hh with hh | hh | hh <;> first | omega | simp_all) (by omega) ?_, rfl⟩; exact enc_full t f k d (by omega))
    | (refine ⟨enc_c (fun hh => by rcases hh with hh | hh | hh <;> first | omega | simp_all) (by omega) (enc_pad t f k d), rfl⟩)
set_option maxHeartbeats 4000000 in
theorem renc_det (t f k : Int) (d : ByteArray) (ht : 0 ≤ t ∧ t ≤ 18446744073709551615) (hf : 0 ≤ f ∧ f ≤ 18446744073709551615) (hk : 0 ≤ k ∧ k ≤ 65535) (hd : d.size ≤ 1000000) : Det G Tryd.prog 34 [.a [.int .u64 t, .int .u64 f, .int .u16 k, .str d]] [] (.t [.o (.str (encS t f k d)), .o (.int .i64 (encE t f d))]) [] := by
  have hz : (Sp.ofB t 6 ++ Sp.ofB f 6 ++ Sp.ofB k 2 ++ d).size = 14 + d.size := hdr7_size t f k d
  refine can_of_W known mix Tryd.func34 (by kernel_rfl) ok_ref07_Encode (Nat.le_of_ble_eq_true rfl) ?_
  repeat' ((conv => whnf); first
    | ((with_reducible refine Look.mk ?_); refine ⟨_, rfl, ?_⟩)
    | ((with_reducible refine LookN.zeros ?_))
    | ((with_reducible refine LookN.bytes ?_ ?_); (simp; done))
    | ((with_reducible refine BytesW.bytes ?_))
    | ((with_reducible refine Look.byte ?_ ?_); omega)
    | ((with_reducible refine Look.setb ?_ ?_ ?_); exact bv8_bd _; omega)
    | ((with_reducible refine LookN.setb ?_ ?_ ?_); exact bv8_bd _; omega)
    | ((with_reducible refine LookN.mk ?_); refine ⟨_, rfl, ?_⟩)
    | ((with_reducible refine Need.mk ?_ ?_); first | ((with_reducible refine needB ?_); kernel_rfl) | with_reducible rfl | omega | (with_reducible refine ⟨rfl, ?_⟩; focus omega) | (simp only [ByteArray.size_append, size_lit, List.size_toArray, List.length_cons, List.length_nil, Sp.ofB_size, ByteArray.size_extract, hdr7_size, List.length_replicate]; omega) | exact rfl | trivial | exact Nat.le_of_ble_eq_true rfl | (exact ⟨rfl, by omega⟩) | (intro h; first | rfl | cases h) | (simp only [lenS_text, lenS_setN, lenS_zeros]; omega))
    | ((with_reducible refine BytesW.mk ?_); refine ⟨_, rfl, ?_⟩)
    | (with_reducible refine CallW.det (rgrp_det _ (by omega)) ?_)
    | (with_reducible refine CallW.det (rOf6 _ (by omega)) ?_)
    | (with_reducible refine CallW.det (rOf2 _ (by omega)) ?_)
    | ((with_reducible refine WrT.same ?_ ?_); focus (repeat (first | exact trivial | ((conv => whnf); refine ⟨rfl, ?_⟩))))
    | (with_reducible refine WrT.all ?_)
    | ((with_reducible refine Test.tmodEqT ?_ ?_ ?_); omega; focus first | omega | assumption)
    | ((with_reducible refine Test.tmodEqF ?_ ?_ ?_); omega; focus first | omega | assumption)
    | ((with_reducible refine Test.tmodNeT ?_ ?_ ?_); omega; focus first | omega | assumption)
    | ((with_reducible refine Test.tmodNeF ?_ ?_ ?_); omega; focus first | omega | assumption)
    | ((with_reducible refine Test.tmodEq ?_ (fun h => ?_) (fun h => ?_)); omega)
    | ((with_reducible refine Test.tmodNe ?_ (fun h => ?_) (fun h => ?_)); omega)
    | ((with_reducible refine Test.notT ?_ ?_); focus assumption)
    | ((with_reducible refine Test.notF ?_ ?_); focus assumption)
    | (with_reducible refine Test.notIe (fun h => ?_) (fun h => ?_))
    | (with_reducible refine Test.notD (fun h => ?_) (fun h => ?_))
    | ((with_reducible refine Test.empty (fun h => ?_) (fun h => ?_)))
    | (with_reducible refine Test.tt ?_)
    | (with_reducible refine Test.ff ?_)
    | ((with_reducible refine Test.dt ?_ ?_); omega)
    | ((with_reducible refine Test.df ?_ ?_); omega)
    | (with_reducible refine Test.d (fun h => ?_) (fun h => ?_))
    | ((with_reducible refine Test.ieT ?_ ?_); omega)
    | ((with_reducible refine Test.ieF ?_ ?_); omega)
    | ((with_reducible refine Test.neT ?_ ?_); omega)
    | ((with_reducible refine Test.neF ?_ ?_); omega)
    | (with_reducible refine Test.ie (fun h => ?_) (fun h => ?_))
    | (with_reducible refine Test.ne (fun h => ?_) (fun h => ?_))
    | ((with_reducible refine Test.b ?_ ?_); (focus first | assumption | (simp [negB]; done) | exact rfl))
    | ((with_reducible refine Test.nb ?_ ?_); (focus first | assumption | (simp [negB]; done) | exact rfl))
    | (with_reducible refine Test.notS (fun h => ?_) (fun h => ?_))
    | (with_reducible refine Test.mk (fun h => ?_) (fun h => ?_))
    | ((with_reducible refine Arith.andu64_1 ?_ ?_); omega)
    | ((with_reducible refine Arith.tdiv ?_ ?_); omega)
    | (with_reducible refine Arith.bv8 ?_)
    | (with_reducible refine Arith.bv16 ?_)
    | (with_reducible refine Arith.bv32 ?_)
    | (with_reducible refine Arith.bv64 ?_)
    | ((with_reducible refine Arith.i64 ?_ ?_); omega)
    | ((with_reducible refine Arith.u64 ?_ ?_); omega)
    | ((with_reducible refine Arith.u32 ?_ ?_); omega)
    | ((with_reducible refine Arith.u16 ?_ ?_); omega)
    | ((with_reducible refine Arith.u8 ?_ ?_); omega)
    | ((with_reducible refine Arith.i32 ?_ ?_); omega)
    | ((with_reducible refine Arith.i64 ?_ ?_); simp (discharger := omega) only [Int.tdiv_eq_ediv_of_nonneg, shr_u8_4, shl_u8_4, shr_u16_4, shl_u16_4, shr_u16_8, shl_u16_8, shr_u32_4, shl_u32_4, shr_u32_8, shl_u32_8, shr_u32_16, shl_u32_16, shr_u32_24, shl_u32_24, shr_u64_4, shl_u64_4, shr_u64_8, shl_u64_8, shr_u64_16, shl_u64_16, shr_u64_24, shl_u64_24, shr_u64_40, shl_u64_40, shr_i64_4, shl_i64_4, shr_i64_8, shl_i64_8, shr_i64_16, shl_i64_16, shr_i64_24, shl_i64_24, shr_i64_40, shl_i64_40]; omega)
    | ((with_reducible refine Arith.u64 ?_ ?_); simp (discharger := omega) only [Int.tdiv_eq_ediv_of_nonneg, shr_u8_4, shl_u8_4, shr_u16_4, shl_u16_4, shr_u16_8, shl_u16_8, shr_u32_4, shl_u32_4, shr_u32_8, shl_u32_8, shr_u32_16, shl_u32_16, shr_u32_24, shl_u32_24, shr_u64_4, shl_u64_4, shr_u64_8, shl_u64_8, shr_u64_16, shl_u64_16, shr_u64_24, shl_u64_24, shr_u64_40, shl_u64_40, shr_i64_4, shl_i64_4, shr_i64_8, shl_i64_8, shr_i64_16, shl_i64_16, shr_i64_24, shl_i64_24, shr_i64_40, shl_i64_40]; omega)
    | ((with_reducible refine Arith.u32 ?_ ?_); simp (discharger := omega) only [Int.tdiv_eq_ediv_of_nonneg, shr_u8_4, shl_u8_4, shr_u16_4, shl_u16_4, shr_u16_8, shl_u16_8, shr_u32_4, shl_u32_4, shr_u32_8, shl_u32_8, shr_u32_16, shl_u32_16, shr_u32_24, shl_u32_24, shr_u64_4, shl_u64_4, shr_u64_8, shl_u64_8, shr_u64_16, shl_u64_16, shr_u64_24, shl_u64_24, shr_u64_40, shl_u64_40, shr_i64_4, shl_i64_4, shr_i64_8, shl_i64_8, shr_i64_16, shl_i64_16, shr_i64_24, shl_i64_24, shr_i64_40, shl_i64_40]; omega)
    | ((with_reducible refine Arith.u16 ?_ ?_); simp (discharger := omega) only [Int.tdiv_eq_ediv_of_nonneg, shr_u8_4, shl_u8_4, shr_u16_4, shl_u16_4, shr_u16_8, shl_u16_8, shr_u32_4, shl_u32_4, shr_u32_8, shl_u32_8, shr_u32_16, shl_u32_16, shr_u32_24, shl_u32_24, shr_u64_4, shl_u64_4, shr_u64_8, shl_u64_8, shr_u64_16, shl_u64_16, shr_u64_24, shl_u64_24, shr_u64_40, shl_u64_40, shr_i64_4, shl_i64_4, shr_i64_8, shl_i64_8, shr_i64_16, shl_i64_16, shr_i64_24, shl_i64_24, shr_i64_40, shl_i64_40]; omega)
    | ((with_reducible refine Arith.u8 ?_ ?_); simp (discharger := omega) only [Int.tdiv_eq_ediv_of_nonneg, shr_u8_4, shl_u8_4, shr_u16_4, shl_u16_4, shr_u16_8, shl_u16_8, shr_u32_4, shl_u32_4, shr_u32_8, shl_u32_8, shr_u32_16, shl_u32_16, shr_u32_24, shl_u32_24, shr_u64_4, shl_u64_4, shr_u64_8, shl_u64_8, shr_u64_16, shl_u64_16, shr_u64_24, shl_u64_24, shr_u64_40, shl_u64_40, shr_i64_4, shl_i64_4, shr_i64_8, shl_i64_8, shr_i64_16, shl_i64_16, shr_i64_24, shl_i64_24, shr_i64_40, shl_i64_40]; omega)
    | (with_reducible refine Arith.mk ?_)
    | (with_reducible refine Ends.mk ?_))
  all_goals first
    | (refine ⟨enc_a ?_, rfl⟩; first | exact .inl (by omega) | exact .inr (.inl (by omega)) | exact .inr (.inr (by assumption)))
    | (refine ⟨enc_b (fun hh => by rcases hh with hh | hh | hh <;> first | omega | simp_all) (by omega), rfl⟩; done)
    | (refine ⟨enc_c (fun hh => by rcases hh with hh | hh | hh <;> first | omega | simp_all) (by omega) ?_, rfl⟩; rfl)
    | (refine ⟨enc_c (fun hh => by rcases hh with hh | hh | hh <;> first | omega | simp_all) (by omega) ?_, rfl⟩; exact enc_full t f k d (by omega))
    | (refine ⟨enc_c (fun hh => by rcases hh with hh | hh | hh <;> first | omega | simp_all) (by omega) (enc_pad t f k d), rfl⟩)
end G4
end Go.Proofs.YtnikpanebkknfaaDoor.VM
