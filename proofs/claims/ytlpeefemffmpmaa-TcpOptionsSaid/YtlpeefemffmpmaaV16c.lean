/- law 16 by the evaluator: what the answer reads. -/
import Derived.Test.YtlpeefemffmpmaaV16b
import Derived.Test.YtlpeefemffmpmaaSumP
namespace Go.Proofs.Ytlpeefemffmpmaa.VM
namespace L16
open Go.RowKit
set_option linter.unusedVariables false
set_option linter.unusedSimpArgs false
set_option maxRecDepth 100000
theorem bAt_bt (s : ByteArray) (i : Nat) : bAt s i = Sp.bt s i := by unfold bAt Sp.bt; rw [List.getD_eq_getElem?_getD]
theorem textS_in (s : ByteArray) (p n : Nat) (h : p + n ≤ s.size) : Sp.textS s p n = s.extract p (p + n) := by
  unfold Sp.textS
  rw [if_pos (by unfold Sp.textOk; simp only [Bool.and_eq_true, decide_eq_true_eq]; omega)]
  rfl
theorem drop_take4 (l : List UInt8) (i : Nat) (h : i + 4 ≤ l.length) : (l.take (i + 4)).drop i = [l.getD i 0, l.getD (i + 1) 0, l.getD (i + 2) 0, l.getD (i + 3) 0] := by
  rw [List.drop_take, show i + 4 - i = 4 by omega, List.drop_eq_getElem_cons (show i < l.length by omega), List.drop_eq_getElem_cons (show i + 1 < l.length by omega), List.drop_eq_getElem_cons (show i + 1 + 1 < l.length by omega), List.drop_eq_getElem_cons (show i + 1 + 1 + 1 < l.length by omega)]
  simp only [List.take_succ_cons, List.take_zero, List.getD_eq_getElem?_getD]
  rw [List.getElem?_eq_getElem (by omega), List.getElem?_eq_getElem (by omega), List.getElem?_eq_getElem (by omega), List.getElem?_eq_getElem (by omega)]
  rfl
theorem n2_b (s : ByteArray) (p : Int) (h0 : 0 ≤ p) (h : p + 2 ≤ s.size) : n2 s p = 256 * bAt s p.toNat + bAt s (p + 1).toNat := by
  obtain ⟨k, rfl⟩ := Int.eq_ofNat_of_zero_le h0
  unfold n2
  have e := textS_in s k 2 (by omega)
  rw [show ((2 : Nat) : Int) = 2 from rfl] at e
  rw [e, Sp.extract_toList, Sp.drop_take2 _ _ (by rw [Sp.size_toList]; omega), Sp.num2, bAt_bt, bAt_bt, Int.toNat_natCast, show ((k : Int) + 1).toNat = k + 1 by omega]
  rfl
theorem num4 (a b c d : UInt8) : Sp.num 4294967296 [a, b, c, d] = 256 * (256 * (256 * (a.toNat : Int) + b.toNat) + c.toNat) + d.toNat := by
  unfold Sp.num
  have ha := a.toNat_lt; have hb := b.toNat_lt; have hc := c.toNat_lt; have hd := d.toNat_lt
  have e : Sp.be [a, b, c, d] = 256 * (256 * (256 * a.toNat + b.toNat) + c.toNat) + d.toNat := by simp only [Sp.be, List.foldl_cons, List.foldl_nil]; omega
  rw [e, Nat.mod_eq_of_lt (by omega)]; omega
theorem n4_b (s : ByteArray) (p : Int) (h0 : 0 ≤ p) (h : p + 4 ≤ s.size) : n4 s p = 256 * (256 * (256 * bAt s p.toNat + bAt s (p + 1).toNat) + bAt s (p + (1 + 1)).toNat) + bAt s (p + (1 + 1 + 1)).toNat := by
  obtain ⟨k, rfl⟩ := Int.eq_ofNat_of_zero_le h0
  unfold n4
  have e := textS_in s k 4 (by omega)
  rw [show ((4 : Nat) : Int) = 4 from rfl] at e
  rw [e, Sp.extract_toList, drop_take4 _ _ (by rw [Sp.size_toList]; omega), num4, bAt_bt, bAt_bt, bAt_bt, bAt_bt, Int.toNat_natCast, show ((k : Int) + 1).toNat = k + 1 by omega, show ((k : Int) + (1 + 1)).toNat = k + 2 by omega, show ((k : Int) + (1 + 1 + 1)).toNat = k + 3 by omega]
  rfl
theorem n2_bd (s : ByteArray) (p : Int) : 0 ≤ n2 s p ∧ n2 s p ≤ 65535 := ⟨Sp.num_nonneg _ _, by have := Sp.num_lt 65536 (Sp.textS s p 2).data.toList (by omega); unfold n2; omega⟩
theorem n4_bd (s : ByteArray) (p : Int) : 0 ≤ n4 s p ∧ n4 s p ≤ 4294967295 := ⟨Sp.num_nonneg _ _, by have := Sp.num_lt 4294967296 (Sp.textS s p 4).data.toList (by omega); unfold n4; omega⟩
theorem Sp.extract_whole' (s : ByteArray) : s.extract 0 s.size = s := by
  apply ba_ext
  rw [Sp.extract_toList, List.take_of_length_le (by rw [Sp.size_toList]; exact Nat.le_refl _), List.drop_zero]
theorem Arith.n2i {s : ByteArray} {p : Int} {K : Int → Prop} (g : K (n2 s p)) : Arith .u16 (n2 s p) K := .u16 (n2_bd s p) g
theorem Arith.n4i {s : ByteArray} {p : Int} {K : Int → Prop} (g : K (n4 s p)) : Arith .u32 (n4 s p) K := .u32 (n4_bd s p) g
theorem bAt_tail (s : ByteArray) (a k : Nat) : bAt (s.extract a s.size) k = bAt s (a + k) := by
  unfold bAt
  rw [Sp.extract_toList, List.getElem?_drop, List.take_of_length_le (by rw [Sp.size_toList]; omega)]
theorem extract_tail (s : ByteArray) (a k n : Nat) (hn : n = (s.extract a s.size).size) : (s.extract a s.size).extract k n = s.extract (a + k) s.size := by
  apply ba_ext
  subst hn
  rw [Sp.extract_toList, List.take_of_length_le (by rw [Sp.size_toList]; exact Nat.le_refl _), Sp.extract_toList, Sp.extract_toList, List.drop_drop]
set_option maxHeartbeats 1000000 in
theorem rNum4 (s : ByteArray) (p : Int) (hs : s.size ≤ 140737488355328) (hp : 0 ≤ p) (hp2 : p + 4 ≤ s.size) : Det Try.prog 56 [.o (.str s), .o (.int .i64 p), .o (.int .i64 4)] [] (.t [.o (.int .u64 (n4 s p)), .o (.int .i64 0)]) [] := by
  have b0 := bAt_bd s (p + 0).toNat
  have b1 := bAt_bd s (p + (0 + 1)).toNat
  have b2 := bAt_bd s (p + (0 + 1 + 1)).toNat
  have b3 := bAt_bd s (p + (0 + 1 + 1 + 1)).toNat
  refine can_of_W known mix Try.func56 (by kernel_rfl) ok_ref01_Num (Nat.le_of_ble_eq_true rfl) ?_
  repeat' ((conv => whnf); first
    | ((with_reducible refine Look.mk ?_); refine ⟨_, rfl, ?_⟩)
    | ((with_reducible refine LookN.zeros ?_))
    | ((with_reducible refine LookN.bytes ?_ ?_); (simp; done))
    | ((with_reducible refine BytesW.bytes ?_))
    | ((with_reducible refine Look.byte ?_ ?_); omega)
    | ((with_reducible refine Look.setb ?_ ?_ ?_); exact bv8_bd _; omega)
    | ((with_reducible refine LookN.setb ?_ ?_ ?_); exact bv8_bd _; omega)
    | ((with_reducible refine LookN.mk ?_); refine ⟨_, rfl, ?_⟩)
    | ((with_reducible refine Need.mk ?_ ?_); first | ((with_reducible refine needB ?_); kernel_rfl) | exact rfl | trivial | omega | exact Nat.le_of_ble_eq_true rfl | (exact ⟨rfl, by omega⟩) | (intro h; first | rfl | cases h) | (simp only [lenS_text, lenS_setN, lenS_zeros]; omega) | (simp only [ByteArray.size_append, size_lit, List.size_toArray, List.length_cons, List.length_nil, Sp.ofB_size, Sp.headB_size]; omega))
    | ((with_reducible refine BytesW.mk ?_); refine ⟨_, rfl, ?_⟩)
    | (with_reducible refine LoopW.unroll (fun X hX => ?_))
    | (refine hX _ _ ?_)
    | ((with_reducible refine Test.empty (fun h => ?_) (fun h => ?_)))
    | (with_reducible refine Test.tt ?_)
    | (with_reducible refine Test.ff ?_)
    | ((with_reducible refine Test.dt ?_ ?_); omega)
    | ((with_reducible refine Test.df ?_ ?_); omega)
    | (with_reducible refine Test.d (fun h => ?_) (fun h => ?_))
    | ((with_reducible refine Test.ieT ?_ ?_); omega)
    | ((with_reducible refine Test.ieF ?_ ?_); omega)
    | ((with_reducible refine Test.neT ?_ ?_); omega)
    | ((with_reducible refine Test.neF ?_ ?_); omega)
    | (with_reducible refine Test.ie (fun h => ?_) (fun h => ?_))
    | (with_reducible refine Test.ne (fun h => ?_) (fun h => ?_))
    | ((with_reducible refine Test.b ?_ ?_); (focus first | assumption | (simp [negB]; done) | exact rfl))
    | ((with_reducible refine Test.nb ?_ ?_); (focus first | assumption | (simp [negB]; done) | exact rfl))
    | (with_reducible refine Test.mk (fun h => ?_) (fun h => ?_))
    | (with_reducible refine Arith.bv8 ?_)
    | (with_reducible refine Arith.bv16 ?_)
    | (with_reducible refine Arith.bv32 ?_)
    | (with_reducible refine Arith.bv64 ?_)
    | ((with_reducible refine Arith.i64 ?_ ?_); omega)
    | ((with_reducible refine Arith.u64 ?_ ?_); omega)
    | ((with_reducible refine Arith.u32 ?_ ?_); omega)
    | ((with_reducible refine Arith.u16 ?_ ?_); omega)
    | ((with_reducible refine Arith.u8 ?_ ?_); omega)
    | ((with_reducible refine Arith.i32 ?_ ?_); omega)
    | ((with_reducible refine Arith.i64 ?_ ?_); simp (discharger := omega) only [Int.tdiv_eq_ediv_of_nonneg, shr_u8_4, shl_u8_4, shr_u16_4, shl_u16_4, shr_u16_8, shl_u16_8, shr_u32_4, shl_u32_4, shr_u32_8, shl_u32_8, shr_u32_16, shl_u32_16, shr_u32_24, shl_u32_24, shr_u64_4, shl_u64_4, shr_u64_8, shl_u64_8, shr_u64_16, shl_u64_16, shr_u64_24, shl_u64_24, shr_u64_40, shl_u64_40, shr_i64_4, shl_i64_4, shr_i64_8, shl_i64_8, shr_i64_16, shl_i64_16, shr_i64_24, shl_i64_24, shr_i64_40, shl_i64_40]; omega)
    | ((with_reducible refine Arith.u64 ?_ ?_); simp (discharger := omega) only [Int.tdiv_eq_ediv_of_nonneg, shr_u8_4, shl_u8_4, shr_u16_4, shl_u16_4, shr_u16_8, shl_u16_8, shr_u32_4, shl_u32_4, shr_u32_8, shl_u32_8, shr_u32_16, shl_u32_16, shr_u32_24, shl_u32_24, shr_u64_4, shl_u64_4, shr_u64_8, shl_u64_8, shr_u64_16, shl_u64_16, shr_u64_24, shl_u64_24, shr_u64_40, shl_u64_40, shr_i64_4, shl_i64_4, shr_i64_8, shl_i64_8, shr_i64_16, shl_i64_16, shr_i64_24, shl_i64_24, shr_i64_40, shl_i64_40]; omega)
    | ((with_reducible refine Arith.u32 ?_ ?_); simp (discharger := omega) only [Int.tdiv_eq_ediv_of_nonneg, shr_u8_4, shl_u8_4, shr_u16_4, shl_u16_4, shr_u16_8, shl_u16_8, shr_u32_4, shl_u32_4, shr_u32_8, shl_u32_8, shr_u32_16, shl_u32_16, shr_u32_24, shl_u32_24, shr_u64_4, shl_u64_4, shr_u64_8, shl_u64_8, shr_u64_16, shl_u64_16, shr_u64_24, shl_u64_24, shr_u64_40, shl_u64_40, shr_i64_4, shl_i64_4, shr_i64_8, shl_i64_8, shr_i64_16, shl_i64_16, shr_i64_24, shl_i64_24, shr_i64_40, shl_i64_40]; omega)
    | ((with_reducible refine Arith.u16 ?_ ?_); simp (discharger := omega) only [Int.tdiv_eq_ediv_of_nonneg, shr_u8_4, shl_u8_4, shr_u16_4, shl_u16_4, shr_u16_8, shl_u16_8, shr_u32_4, shl_u32_4, shr_u32_8, shl_u32_8, shr_u32_16, shl_u32_16, shr_u32_24, shl_u32_24, shr_u64_4, shl_u64_4, shr_u64_8, shl_u64_8, shr_u64_16, shl_u64_16, shr_u64_24, shl_u64_24, shr_u64_40, shl_u64_40, shr_i64_4, shl_i64_4, shr_i64_8, shl_i64_8, shr_i64_16, shl_i64_16, shr_i64_24, shl_i64_24, shr_i64_40, shl_i64_40]; omega)
    | ((with_reducible refine Arith.u8 ?_ ?_); simp (discharger := omega) only [Int.tdiv_eq_ediv_of_nonneg, shr_u8_4, shl_u8_4, shr_u16_4, shl_u16_4, shr_u16_8, shl_u16_8, shr_u32_4, shl_u32_4, shr_u32_8, shl_u32_8, shr_u32_16, shl_u32_16, shr_u32_24, shl_u32_24, shr_u64_4, shl_u64_4, shr_u64_8, shl_u64_8, shr_u64_16, shl_u64_16, shr_u64_24, shl_u64_24, shr_u64_40, shl_u64_40, shr_i64_4, shl_i64_4, shr_i64_8, shl_i64_8, shr_i64_16, shl_i64_16, shr_i64_24, shl_i64_24, shr_i64_40, shl_i64_40]; omega)
    | (with_reducible refine Arith.mk ?_)
    | (with_reducible refine Ends.mk ?_))
  all_goals refine ⟨?_, rfl⟩
  all_goals rw [n4_b s p hp hp2]
  all_goals simp
theorem rNum2' (s : ByteArray) (p : Int) (hs : s.size ≤ 140737488355328) (hp : 0 ≤ p) (hp2 : p + 2 ≤ s.size) : Det Try.prog 56 [.o (.str s), .o (.int .i64 p), .o (.int .i64 2)] [] (.t [.o (.int .u64 (n2 s p)), .o (.int .i64 0)]) [] := by
  rw [n2_b s p hp hp2]; exact rNum2 s p hs hp hp2
theorem rn2 (s : ByteArray) (p : Int) (hs : s.size ≤ 140737488355328) (hp : 0 ≤ p) (hp2 : p + 2 ≤ s.size) : Det Try.prog 63 [.o (.str s), .o (.int .i64 p), .o (.int .i64 2)] [] (vI .u64 (n2 s p)) [] := by
  refine can_of_W known mix Try.func63 (by kernel_rfl) ok_ref16_num (Nat.le_of_ble_eq_true rfl) ?_
  repeat' ((conv => whnf); first
    | ((with_reducible refine Look.mk ?_); refine ⟨_, rfl, ?_⟩)
    | ((with_reducible refine LookN.zeros ?_))
    | ((with_reducible refine LookN.bytes ?_ ?_); (simp; done))
    | ((with_reducible refine BytesW.bytes ?_))
    | ((with_reducible refine Look.byte ?_ ?_); omega)
    | ((with_reducible refine Look.setb ?_ ?_ ?_); exact bv8_bd _; omega)
    | ((with_reducible refine LookN.setb ?_ ?_ ?_); exact bv8_bd _; omega)
    | ((with_reducible refine LookN.mk ?_); refine ⟨_, rfl, ?_⟩)
    | ((with_reducible refine Need.mk ?_ ?_); first | ((with_reducible refine needB ?_); kernel_rfl) | exact rfl | trivial | omega | exact Nat.le_of_ble_eq_true rfl | (exact ⟨rfl, by omega⟩) | (intro h; first | rfl | cases h) | (simp only [lenS_text, lenS_setN, lenS_zeros]; omega) | (simp only [ByteArray.size_append, size_lit, List.size_toArray, List.length_cons, List.length_nil, Sp.ofB_size, Sp.headB_size]; omega))
    | ((with_reducible refine BytesW.mk ?_); refine ⟨_, rfl, ?_⟩)
    | (with_reducible refine CallW.det (rNum2' s p hs hp hp2) ?_)
    | ((with_reducible refine Test.empty (fun h => ?_) (fun h => ?_)))
    | (with_reducible refine Test.tt ?_)
    | (with_reducible refine Test.ff ?_)
    | ((with_reducible refine Test.dt ?_ ?_); omega)
    | ((with_reducible refine Test.df ?_ ?_); omega)
    | (with_reducible refine Test.d (fun h => ?_) (fun h => ?_))
    | ((with_reducible refine Test.ieT ?_ ?_); omega)
    | ((with_reducible refine Test.ieF ?_ ?_); omega)
    | ((with_reducible refine Test.neT ?_ ?_); omega)
    | ((with_reducible refine Test.neF ?_ ?_); omega)
    | (with_reducible refine Test.ie (fun h => ?_) (fun h => ?_))
    | (with_reducible refine Test.ne (fun h => ?_) (fun h => ?_))
    | ((with_reducible refine Test.b ?_ ?_); (focus first | assumption | (simp [negB]; done) | exact rfl))
    | ((with_reducible refine Test.nb ?_ ?_); (focus first | assumption | (simp [negB]; done) | exact rfl))
    | (with_reducible refine Test.mk (fun h => ?_) (fun h => ?_))
    | (with_reducible refine Arith.bv8 ?_)
    | (with_reducible refine Arith.bv16 ?_)
    | (with_reducible refine Arith.bv32 ?_)
    | (with_reducible refine Arith.bv64 ?_)
    | ((with_reducible refine Arith.i64 ?_ ?_); omega)
    | ((with_reducible refine Arith.u64 ?_ ?_); omega)
    | ((with_reducible refine Arith.u32 ?_ ?_); omega)
    | ((with_reducible refine Arith.u16 ?_ ?_); omega)
    | ((with_reducible refine Arith.u8 ?_ ?_); omega)
    | ((with_reducible refine Arith.i32 ?_ ?_); omega)
    | ((with_reducible refine Arith.i64 ?_ ?_); simp (discharger := omega) only [Int.tdiv_eq_ediv_of_nonneg, shr_u8_4, shl_u8_4, shr_u16_4, shl_u16_4, shr_u16_8, shl_u16_8, shr_u32_4, shl_u32_4, shr_u32_8, shl_u32_8, shr_u32_16, shl_u32_16, shr_u32_24, shl_u32_24, shr_u64_4, shl_u64_4, shr_u64_8, shl_u64_8, shr_u64_16, shl_u64_16, shr_u64_24, shl_u64_24, shr_u64_40, shl_u64_40, shr_i64_4, shl_i64_4, shr_i64_8, shl_i64_8, shr_i64_16, shl_i64_16, shr_i64_24, shl_i64_24, shr_i64_40, shl_i64_40]; omega)
    | ((with_reducible refine Arith.u64 ?_ ?_); simp (discharger := omega) only [Int.tdiv_eq_ediv_of_nonneg, shr_u8_4, shl_u8_4, shr_u16_4, shl_u16_4, shr_u16_8, shl_u16_8, shr_u32_4, shl_u32_4, shr_u32_8, shl_u32_8, shr_u32_16, shl_u32_16, shr_u32_24, shl_u32_24, shr_u64_4, shl_u64_4, shr_u64_8, shl_u64_8, shr_u64_16, shl_u64_16, shr_u64_24, shl_u64_24, shr_u64_40, shl_u64_40, shr_i64_4, shl_i64_4, shr_i64_8, shl_i64_8, shr_i64_16, shl_i64_16, shr_i64_24, shl_i64_24, shr_i64_40, shl_i64_40]; omega)
    | ((with_reducible refine Arith.u32 ?_ ?_); simp (discharger := omega) only [Int.tdiv_eq_ediv_of_nonneg, shr_u8_4, shl_u8_4, shr_u16_4, shl_u16_4, shr_u16_8, shl_u16_8, shr_u32_4, shl_u32_4, shr_u32_8, shl_u32_8, shr_u32_16, shl_u32_16, shr_u32_24, shl_u32_24, shr_u64_4, shl_u64_4, shr_u64_8, shl_u64_8, shr_u64_16, shl_u64_16, shr_u64_24, shl_u64_24, shr_u64_40, shl_u64_40, shr_i64_4, shl_i64_4, shr_i64_8, shl_i64_8, shr_i64_16, shl_i64_16, shr_i64_24, shl_i64_24, shr_i64_40, shl_i64_40]; omega)
    | ((with_reducible refine Arith.u16 ?_ ?_); simp (discharger := omega) only [Int.tdiv_eq_ediv_of_nonneg, shr_u8_4, shl_u8_4, shr_u16_4, shl_u16_4, shr_u16_8, shl_u16_8, shr_u32_4, shl_u32_4, shr_u32_8, shl_u32_8, shr_u32_16, shl_u32_16, shr_u32_24, shl_u32_24, shr_u64_4, shl_u64_4, shr_u64_8, shl_u64_8, shr_u64_16, shl_u64_16, shr_u64_24, shl_u64_24, shr_u64_40, shl_u64_40, shr_i64_4, shl_i64_4, shr_i64_8, shl_i64_8, shr_i64_16, shl_i64_16, shr_i64_24, shl_i64_24, shr_i64_40, shl_i64_40]; omega)
    | ((with_reducible refine Arith.u8 ?_ ?_); simp (discharger := omega) only [Int.tdiv_eq_ediv_of_nonneg, shr_u8_4, shl_u8_4, shr_u16_4, shl_u16_4, shr_u16_8, shl_u16_8, shr_u32_4, shl_u32_4, shr_u32_8, shl_u32_8, shr_u32_16, shl_u32_16, shr_u32_24, shl_u32_24, shr_u64_4, shl_u64_4, shr_u64_8, shl_u64_8, shr_u64_16, shl_u64_16, shr_u64_24, shl_u64_24, shr_u64_40, shl_u64_40, shr_i64_4, shl_i64_4, shr_i64_8, shl_i64_8, shr_i64_16, shl_i64_16, shr_i64_24, shl_i64_24, shr_i64_40, shl_i64_40]; omega)
    | (with_reducible refine Arith.mk ?_)
    | (with_reducible refine Ends.mk ?_))
  all_goals exact ⟨rfl, rfl⟩
theorem rn4 (s : ByteArray) (p : Int) (hs : s.size ≤ 140737488355328) (hp : 0 ≤ p) (hp2 : p + 4 ≤ s.size) : Det Try.prog 63 [.o (.str s), .o (.int .i64 p), .o (.int .i64 4)] [] (vI .u64 (n4 s p)) [] := by
  refine can_of_W known mix Try.func63 (by kernel_rfl) ok_ref16_num (Nat.le_of_ble_eq_true rfl) ?_
  repeat' ((conv => whnf); first
    | ((with_reducible refine Look.mk ?_); refine ⟨_, rfl, ?_⟩)
    | ((with_reducible refine LookN.zeros ?_))
    | ((with_reducible refine LookN.bytes ?_ ?_); (simp; done))
    | ((with_reducible refine BytesW.bytes ?_))
    | ((with_reducible refine Look.byte ?_ ?_); omega)
    | ((with_reducible refine Look.setb ?_ ?_ ?_); exact bv8_bd _; omega)
    | ((with_reducible refine LookN.setb ?_ ?_ ?_); exact bv8_bd _; omega)
    | ((with_reducible refine LookN.mk ?_); refine ⟨_, rfl, ?_⟩)
    | ((with_reducible refine Need.mk ?_ ?_); first | ((with_reducible refine needB ?_); kernel_rfl) | exact rfl | trivial | omega | exact Nat.le_of_ble_eq_true rfl | (exact ⟨rfl, by omega⟩) | (intro h; first | rfl | cases h) | (simp only [lenS_text, lenS_setN, lenS_zeros]; omega) | (simp only [ByteArray.size_append, size_lit, List.size_toArray, List.length_cons, List.length_nil, Sp.ofB_size, Sp.headB_size]; omega))
    | ((with_reducible refine BytesW.mk ?_); refine ⟨_, rfl, ?_⟩)
    | (with_reducible refine CallW.det (rNum4 s p hs hp hp2) ?_)
    | ((with_reducible refine Test.empty (fun h => ?_) (fun h => ?_)))
    | (with_reducible refine Test.tt ?_)
    | (with_reducible refine Test.ff ?_)
    | ((with_reducible refine Test.dt ?_ ?_); omega)
    | ((with_reducible refine Test.df ?_ ?_); omega)
    | (with_reducible refine Test.d (fun h => ?_) (fun h => ?_))
    | ((with_reducible refine Test.ieT ?_ ?_); omega)
    | ((with_reducible refine Test.ieF ?_ ?_); omega)
    | ((with_reducible refine Test.neT ?_ ?_); omega)
    | ((with_reducible refine Test.neF ?_ ?_); omega)
    | (with_reducible refine Test.ie (fun h => ?_) (fun h => ?_))
    | (with_reducible refine Test.ne (fun h => ?_) (fun h => ?_))
    | ((with_reducible refine Test.b ?_ ?_); (focus first | assumption | (simp [negB]; done) | exact rfl))
    | ((with_reducible refine Test.nb ?_ ?_); (focus first | assumption | (simp [negB]; done) | exact rfl))
    | (with_reducible refine Test.mk (fun h => ?_) (fun h => ?_))
    | (with_reducible refine Arith.bv8 ?_)
    | (with_reducible refine Arith.bv16 ?_)
    | (with_reducible refine Arith.bv32 ?_)
    | (with_reducible refine Arith.bv64 ?_)
    | ((with_reducible refine Arith.i64 ?_ ?_); omega)
    | ((with_reducible refine Arith.u64 ?_ ?_); omega)
    | ((with_reducible refine Arith.u32 ?_ ?_); omega)
    | ((with_reducible refine Arith.u16 ?_ ?_); omega)
    | ((with_reducible refine Arith.u8 ?_ ?_); omega)
    | ((with_reducible refine Arith.i32 ?_ ?_); omega)
    | ((with_reducible refine Arith.i64 ?_ ?_); simp (discharger := omega) only [Int.tdiv_eq_ediv_of_nonneg, shr_u8_4, shl_u8_4, shr_u16_4, shl_u16_4, shr_u16_8, shl_u16_8, shr_u32_4, shl_u32_4, shr_u32_8, shl_u32_8, shr_u32_16, shl_u32_16, shr_u32_24, shl_u32_24, shr_u64_4, shl_u64_4, shr_u64_8, shl_u64_8, shr_u64_16, shl_u64_16, shr_u64_24, shl_u64_24, shr_u64_40, shl_u64_40, shr_i64_4, shl_i64_4, shr_i64_8, shl_i64_8, shr_i64_16, shl_i64_16, shr_i64_24, shl_i64_24, shr_i64_40, shl_i64_40]; omega)
    | ((with_reducible refine Arith.u64 ?_ ?_); simp (discharger := omega) only [Int.tdiv_eq_ediv_of_nonneg, shr_u8_4, shl_u8_4, shr_u16_4, shl_u16_4, shr_u16_8, shl_u16_8, shr_u32_4, shl_u32_4, shr_u32_8, shl_u32_8, shr_u32_16, shl_u32_16, shr_u32_24, shl_u32_24, shr_u64_4, shl_u64_4, shr_u64_8, shl_u64_8, shr_u64_16, shl_u64_16, shr_u64_24, shl_u64_24, shr_u64_40, shl_u64_40, shr_i64_4, shl_i64_4, shr_i64_8, shl_i64_8, shr_i64_16, shl_i64_16, shr_i64_24, shl_i64_24, shr_i64_40, shl_i64_40]; omega)
    | ((with_reducible refine Arith.u32 ?_ ?_); simp (discharger := omega) only [Int.tdiv_eq_ediv_of_nonneg, shr_u8_4, shl_u8_4, shr_u16_4, shl_u16_4, shr_u16_8, shl_u16_8, shr_u32_4, shl_u32_4, shr_u32_8, shl_u32_8, shr_u32_16, shl_u32_16, shr_u32_24, shl_u32_24, shr_u64_4, shl_u64_4, shr_u64_8, shl_u64_8, shr_u64_16, shl_u64_16, shr_u64_24, shl_u64_24, shr_u64_40, shl_u64_40, shr_i64_4, shl_i64_4, shr_i64_8, shl_i64_8, shr_i64_16, shl_i64_16, shr_i64_24, shl_i64_24, shr_i64_40, shl_i64_40]; omega)
    | ((with_reducible refine Arith.u16 ?_ ?_); simp (discharger := omega) only [Int.tdiv_eq_ediv_of_nonneg, shr_u8_4, shl_u8_4, shr_u16_4, shl_u16_4, shr_u16_8, shl_u16_8, shr_u32_4, shl_u32_4, shr_u32_8, shl_u32_8, shr_u32_16, shl_u32_16, shr_u32_24, shl_u32_24, shr_u64_4, shl_u64_4, shr_u64_8, shl_u64_8, shr_u64_16, shl_u64_16, shr_u64_24, shl_u64_24, shr_u64_40, shl_u64_40, shr_i64_4, shl_i64_4, shr_i64_8, shl_i64_8, shr_i64_16, shl_i64_16, shr_i64_24, shl_i64_24, shr_i64_40, shl_i64_40]; omega)
    | ((with_reducible refine Arith.u8 ?_ ?_); simp (discharger := omega) only [Int.tdiv_eq_ediv_of_nonneg, shr_u8_4, shl_u8_4, shr_u16_4, shl_u16_4, shr_u16_8, shl_u16_8, shr_u32_4, shl_u32_4, shr_u32_8, shl_u32_8, shr_u32_16, shl_u32_16, shr_u32_24, shl_u32_24, shr_u64_4, shl_u64_4, shr_u64_8, shl_u64_8, shr_u64_16, shl_u64_16, shr_u64_24, shl_u64_24, shr_u64_40, shl_u64_40, shr_i64_4, shl_i64_4, shr_i64_8, shl_i64_8, shr_i64_16, shl_i64_16, shr_i64_24, shl_i64_24, shr_i64_40, shl_i64_40]; omega)
    | (with_reducible refine Arith.mk ?_)
    | (with_reducible refine Ends.mk ?_))
  all_goals exact ⟨rfl, rfl⟩
theorem bAt_tail_int (s : ByteArray) (a : Int) (k : Nat) : bAt (s.extract a.toNat s.size) k = bAt s (a.toNat + k) := bAt_tail s _ _
theorem n2_tail (s : ByteArray) (a : Int) (h0 : 0 ≤ a) (h : a + 4 ≤ s.size) : n2 (s.extract a.toNat s.size) 2 = n2 s (a + 2) := by
  obtain ⟨k, rfl⟩ := Int.eq_ofNat_of_zero_le h0
  rw [n2_b _ _ (by omega) (by rw [ByteArray.size_extract]; omega), n2_b _ _ (by omega) (by omega), bAt_tail_int, bAt_tail_int]
  rw [show ((k : Int).toNat + (2 : Int).toNat) = ((k : Int) + 2).toNat by omega, show ((k : Int).toNat + ((2 : Int) + 1).toNat) = ((k : Int) + 2 + 1).toNat by omega]
theorem optU_at (f : Nat) (s : ByteArray) (a ms sc : Int) (h0 : 0 ≤ a) (h : a ≤ s.size) : optU (f + 1) (s.extract a.toNat s.size) ms sc =
    if (s.size : Int) ≤ a then (ms, sc, 0) else if bAt s a.toNat = 0 then (ms, sc, 0) else if bAt s a.toNat = 1 then optU f (s.extract (a + 1).toNat s.size) ms sc
    else if (s.size : Int) < a + 2 then (0, -1, 102) else if bAt s (a + 1).toNat < 2 then (0, -1, 102) else if a + bAt s (a + 1).toNat > s.size then (0, -1, 102)
    else if bAt s a.toNat = 2 then (if bAt s (a + 1).toNat = 4 then optU f (s.extract (a + bAt s (a + 1).toNat).toNat s.size) (n2 s (a + 2)) sc else optU f (s.extract (a + bAt s (a + 1).toNat).toNat s.size) ms sc)
    else if bAt s a.toNat = 3 then (if bAt s (a + 1).toNat = 3 then optU f (s.extract (a + bAt s (a + 1).toNat).toNat s.size) ms (min (bAt s (a + 2).toNat) 14) else optU f (s.extract (a + bAt s (a + 1).toNat).toNat s.size) ms sc)
    else optU f (s.extract (a + bAt s (a + 1).toNat).toNat s.size) ms sc := by
  obtain ⟨k, rfl⟩ := Int.eq_ofNat_of_zero_le h0
  have e0 : bAt (s.extract (k : Int).toNat s.size) (Int.toNat 0) = bAt s (k : Int).toNat := by rw [bAt_tail_int]; congr 1
  have e1 : bAt (s.extract (k : Int).toNat s.size) (Int.toNat 1) = bAt s ((k : Int) + 1).toNat := by rw [bAt_tail_int]; congr 1
  have e2 : bAt (s.extract (k : Int).toNat s.size) (Int.toNat 2) = bAt s ((k : Int) + 2).toNat := by rw [bAt_tail_int]; congr 1
  have x1 : (s.extract (k : Int).toNat s.size).extract 1 (s.extract (k : Int).toNat s.size).size = s.extract ((k : Int) + 1).toNat s.size := by rw [extract_tail _ _ _ _ rfl]; congr 1
  have bd := bAt_bd s ((k : Int) + 1).toNat
  have x2 : (s.extract (k : Int).toNat s.size).extract (bAt s ((k : Int) + 1).toNat).toNat (s.extract (k : Int).toNat s.size).size = s.extract ((k : Int) + bAt s ((k : Int) + 1).toNat).toNat s.size := by rw [extract_tail _ _ _ _ rfl]; congr 1 <;> omega
  have hz : (s.extract (k : Int).toNat s.size).size = s.size - k := by rw [ByteArray.size_extract]; omega
  rw [optU, e0, e1, e2, x1, x2, hz]
  by_cases c1 : (s.size : Int) ≤ k
  · rw [if_pos (by omega), if_pos c1]
  rw [if_neg (show ¬ s.size - k = 0 by omega), if_neg c1]
  by_cases c2 : bAt s (k : Int).toNat = 0
  · rw [if_pos c2, if_pos c2]
  rw [if_neg c2, if_neg c2]
  by_cases c3 : bAt s (k : Int).toNat = 1
  · rw [if_pos c3, if_pos c3]
  rw [if_neg c3, if_neg c3]
  by_cases c4 : (s.size : Int) < k + 2
  · rw [if_pos (show s.size - k < 2 by omega), if_pos c4]
  rw [if_neg (show ¬ s.size - k < 2 by omega), if_neg c4]
  by_cases c5 : bAt s ((k : Int) + 1).toNat < 2
  · rw [if_pos c5, if_pos c5]
  rw [if_neg c5, if_neg c5]
  by_cases c6 : (k : Int) + bAt s ((k : Int) + 1).toNat > s.size
  · rw [if_pos (show bAt s ((k : Int) + 1).toNat > ((s.size - k : Nat) : Int) by omega), if_pos c6]
  rw [if_neg (show ¬ bAt s ((k : Int) + 1).toNat > ((s.size - k : Nat) : Int) by omega), if_neg c6]
  by_cases c7 : bAt s ((k : Int) + 1).toNat = 4
  · rw [n2_tail s k (by omega) (by omega)]
  · rw [if_neg c7, if_neg c7]
end L16
end Go.Proofs.Ytlpeefemffmpmaa.VM
