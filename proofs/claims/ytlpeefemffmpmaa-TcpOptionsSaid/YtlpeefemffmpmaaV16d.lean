/- law 16 by the evaluator: the answer reads options and segments; alive. -/
import Derived.Test.YtlpeefemffmpmaaV16c
import Derived.Test.YtlpeefemffmpmaaVBx
namespace Go.Proofs.Ytlpeefemffmpmaa.VM
namespace L16
open Go.RowKit
set_option linter.unusedVariables false
set_option linter.unusedSimpArgs false
set_option maxRecDepth 100000
set_option maxHeartbeats 4000000 in
theorem rread_det (s : ByteArray) (h3 : s.size ≤ 40) (Rm Rs Re : Int) (h1 : optU (s.size + 1) s 0 (-1) = (Rm, Rs, Re)) : Det Try.prog 62 [.o (.str s)] [] (.t [.o (.int .u16 Rm), .o (.int .i64 Rs), .o (.int .i64 Re)]) [] := by
  refine can_of_W known mix Try.func62 (by kernel_rfl) ok_ref16_read (Nat.le_of_ble_eq_true rfl) ?_
  repeat' ((conv => whnf); first
    | ((with_reducible refine Look.mk ?_); refine ⟨_, rfl, ?_⟩)
    | ((with_reducible refine LookN.zeros ?_))
    | ((with_reducible refine LookN.bytes ?_ ?_); (simp; done))
    | ((with_reducible refine BytesW.bytes ?_))
    | ((with_reducible refine Look.byte ?_ ?_); omega)
    | ((with_reducible refine Look.setb ?_ ?_ ?_); exact bv8_bd _; omega)
    | ((with_reducible refine LookN.setb ?_ ?_ ?_); exact bv8_bd _; omega)
    | ((with_reducible refine LookN.mk ?_); refine ⟨_, rfl, ?_⟩)
    | ((with_reducible refine Need.mk ?_ ?_); first | ((with_reducible refine needB ?_); kernel_rfl) | exact rfl | trivial | omega | exact Nat.le_of_ble_eq_true rfl | (exact ⟨rfl, by omega⟩) | (intro h; first | rfl | cases h) | (simp only [lenS_text, lenS_setN, lenS_zeros]; omega) | (simp only [ByteArray.size_append, size_lit, List.size_toArray, List.length_cons, List.length_nil, Sp.ofB_size, Sp.headB_size]; omega))
    | ((with_reducible refine BytesW.mk ?_); refine ⟨_, rfl, ?_⟩)
    | (with_reducible refine CallW.det (rn2 s _ (by omega) (by omega) (by omega)) ?_)
    | (with_reducible refine Arith.n2i ?_)
    | (with_reducible refine Arith.n4i ?_)
    | (refine hX f (Nat.lt_succ_self f) _ _ ⟨_, _, _, (by first | exact .inl rfl | exact .inr ⟨_, rfl⟩), rfl, (by (repeat (first | rw [if_pos (by omega)] at h1 | rw [if_neg (by omega)] at h1)); exact h1), (by omega), (by omega), (by omega)⟩)
    | ((with_reducible refine Test.empty (fun h => ?_) (fun h => ?_)))
    | (with_reducible refine Test.tt ?_)
    | (with_reducible refine Test.ff ?_)
    | ((with_reducible refine Test.dt ?_ ?_); omega)
    | ((with_reducible refine Test.df ?_ ?_); omega)
    | (with_reducible refine Test.d (fun h => ?_) (fun h => ?_))
    | ((with_reducible refine Test.ieT ?_ ?_); omega)
    | ((with_reducible refine Test.ieF ?_ ?_); omega)
    | ((with_reducible refine Test.neT ?_ ?_); omega)
    | ((with_reducible refine Test.neF ?_ ?_); omega)
    | (with_reducible refine Test.ie (fun h => ?_) (fun h => ?_))
    | (with_reducible refine Test.ne (fun h => ?_) (fun h => ?_))
    | ((with_reducible refine Test.b ?_ ?_); (focus first | assumption | (simp [negB]; done) | exact rfl))
    | ((with_reducible refine Test.nb ?_ ?_); (focus first | assumption | (simp [negB]; done) | exact rfl))
    | (with_reducible refine Test.mk (fun h => ?_) (fun h => ?_))
    | (with_reducible refine Arith.bv8 ?_)
    | (with_reducible refine Arith.bv16 ?_)
    | (with_reducible refine Arith.bv32 ?_)
    | (with_reducible refine Arith.bv64 ?_)
    | ((with_reducible refine Arith.i64 ?_ ?_); omega)
    | ((with_reducible refine Arith.u64 ?_ ?_); omega)
    | ((with_reducible refine Arith.u32 ?_ ?_); omega)
    | ((with_reducible refine Arith.u16 ?_ ?_); omega)
    | ((with_reducible refine Arith.u8 ?_ ?_); omega)
    | ((with_reducible refine Arith.i32 ?_ ?_); omega)
    | ((with_reducible refine Arith.i64 ?_ ?_); simp (discharger := omega) only [Int.tdiv_eq_ediv_of_nonneg, shr_u8_4, shl_u8_4, shr_u16_4, shl_u16_4, shr_u16_8, shl_u16_8, shr_u32_4, shl_u32_4, shr_u32_8, shl_u32_8, shr_u32_16, shl_u32_16, shr_u32_24, shl_u32_24, shr_u64_4, shl_u64_4, shr_u64_8, shl_u64_8, shr_u64_16, shl_u64_16, shr_u64_24, shl_u64_24, shr_u64_40, shl_u64_40, shr_i64_4, shl_i64_4, shr_i64_8, shl_i64_8, shr_i64_16, shl_i64_16, shr_i64_24, shl_i64_24, shr_i64_40, shl_i64_40]; omega)
    | ((with_reducible refine Arith.u64 ?_ ?_); simp (discharger := omega) only [Int.tdiv_eq_ediv_of_nonneg, shr_u8_4, shl_u8_4, shr_u16_4, shl_u16_4, shr_u16_8, shl_u16_8, shr_u32_4, shl_u32_4, shr_u32_8, shl_u32_8, shr_u32_16, shl_u32_16, shr_u32_24, shl_u32_24, shr_u64_4, shl_u64_4, shr_u64_8, shl_u64_8, shr_u64_16, shl_u64_16, shr_u64_24, shl_u64_24, shr_u64_40, shl_u64_40, shr_i64_4, shl_i64_4, shr_i64_8, shl_i64_8, shr_i64_16, shl_i64_16, shr_i64_24, shl_i64_24, shr_i64_40, shl_i64_40]; omega)
    | ((with_reducible refine Arith.u32 ?_ ?_); simp (discharger := omega) only [Int.tdiv_eq_ediv_of_nonneg, shr_u8_4, shl_u8_4, shr_u16_4, shl_u16_4, shr_u16_8, shl_u16_8, shr_u32_4, shl_u32_4, shr_u32_8, shl_u32_8, shr_u32_16, shl_u32_16, shr_u32_24, shl_u32_24, shr_u64_4, shl_u64_4, shr_u64_8, shl_u64_8, shr_u64_16, shl_u64_16, shr_u64_24, shl_u64_24, shr_u64_40, shl_u64_40, shr_i64_4, shl_i64_4, shr_i64_8, shl_i64_8, shr_i64_16, shl_i64_16, shr_i64_24, shl_i64_24, shr_i64_40, shl_i64_40]; omega)
    | ((with_reducible refine Arith.u16 ?_ ?_); simp (discharger := omega) only [Int.tdiv_eq_ediv_of_nonneg, shr_u8_4, shl_u8_4, shr_u16_4, shl_u16_4, shr_u16_8, shl_u16_8, shr_u32_4, shl_u32_4, shr_u32_8, shl_u32_8, shr_u32_16, shl_u32_16, shr_u32_24, shl_u32_24, shr_u64_4, shl_u64_4, shr_u64_8, shl_u64_8, shr_u64_16, shl_u64_16, shr_u64_24, shl_u64_24, shr_u64_40, shl_u64_40, shr_i64_4, shl_i64_4, shr_i64_8, shl_i64_8, shr_i64_16, shl_i64_16, shr_i64_24, shl_i64_24, shr_i64_40, shl_i64_40]; omega)
    | ((with_reducible refine Arith.u8 ?_ ?_); simp (discharger := omega) only [Int.tdiv_eq_ediv_of_nonneg, shr_u8_4, shl_u8_4, shr_u16_4, shl_u16_4, shr_u16_8, shl_u16_8, shr_u32_4, shl_u32_4, shr_u32_8, shl_u32_8, shr_u32_16, shl_u32_16, shr_u32_24, shl_u32_24, shr_u64_4, shl_u64_4, shr_u64_8, shl_u64_8, shr_u64_16, shl_u64_16, shr_u64_24, shl_u64_24, shr_u64_40, shl_u64_40, shr_i64_4, shl_i64_4, shr_i64_8, shl_i64_8, shr_i64_16, shl_i64_16, shr_i64_24, shl_i64_24, shr_i64_40, shl_i64_40]; omega)
    | (with_reducible refine Arith.mk ?_)
    | (with_reducible refine Ends.mk ?_))
  refine LoopW.rule (fun f sl M => ∃ a ms sc, (sl = [(0, .p (.o (.str s))), (2, .p (.o (.int .u16 0))), (3, .p (.o (.int .i64 0))), (4, .p (.o (.int .i64 0))), (5, .p (.o (.int .u16 ms))), (6, .p (.o (.int .i64 sc))), (7, .p (.o (.int .i64 a)))] ∨ ∃ n : Int, sl = [(0, .p (.o (.str s))), (2, .p (.o (.int .u16 0))), (3, .p (.o (.int .i64 0))), (4, .p (.o (.int .i64 0))), (5, .p (.o (.int .u16 ms))), (6, .p (.o (.int .i64 sc))), (7, .p (.o (.int .i64 a))), (8, .p (.o (.int .i64 n)))]) ∧ M = [] ∧ optU f (s.extract a.toNat s.size) ms sc = (Rm, Rs, Re) ∧ 0 ≤ a ∧ a ≤ s.size ∧ s.size - a < f) ?_ (s.size + 1) ⟨0, 0, -1, .inl rfl, rfl, by rw [show s.extract (Int.toNat 0) s.size = s from Sp.extract_whole' s]; exact h1, by omega, by omega, by omega⟩
  clear h1
  rintro f sl M ⟨a, ms, sc, hsl, rfl, h1, ha0, ha1, ha2⟩ X hX
  cases f with
  | zero => omega
  | succ f =>
    have hb0 := bAt_bd s a.toNat
    have hb1 := bAt_bd s (a + 1).toNat
    have hb2 := bAt_bd s (a + 2).toNat
    rw [optU_at f s a ms sc ha0 ha1] at h1
    rcases hsl with rfl | ⟨n, rfl⟩
    all_goals repeat' ((conv => whnf); first
    | ((with_reducible refine Look.mk ?_); refine ⟨_, rfl, ?_⟩)
    | ((with_reducible refine LookN.zeros ?_))
    | ((with_reducible refine LookN.bytes ?_ ?_); (simp; done))
    | ((with_reducible refine BytesW.bytes ?_))
    | ((with_reducible refine Look.byte ?_ ?_); omega)
    | ((with_reducible refine Look.setb ?_ ?_ ?_); exact bv8_bd _; omega)
    | ((with_reducible refine LookN.setb ?_ ?_ ?_); exact bv8_bd _; omega)
    | ((with_reducible refine LookN.mk ?_); refine ⟨_, rfl, ?_⟩)
    | ((with_reducible refine Need.mk ?_ ?_); first | ((with_reducible refine needB ?_); kernel_rfl) | exact rfl | trivial | omega | exact Nat.le_of_ble_eq_true rfl | (exact ⟨rfl, by omega⟩) | (intro h; first | rfl | cases h) | (simp only [lenS_text, lenS_setN, lenS_zeros]; omega) | (simp only [ByteArray.size_append, size_lit, List.size_toArray, List.length_cons, List.length_nil, Sp.ofB_size, Sp.headB_size]; omega))
    | ((with_reducible refine BytesW.mk ?_); refine ⟨_, rfl, ?_⟩)
    | (with_reducible refine CallW.det (rn2 s _ (by omega) (by omega) (by omega)) ?_)
    | (with_reducible refine Arith.n2i ?_)
    | (with_reducible refine Arith.n4i ?_)
    | (refine hX f (Nat.lt_succ_self f) _ _ ⟨_, _, _, (by first | exact .inl rfl | exact .inr ⟨_, rfl⟩), rfl, (by (repeat (first | rw [if_pos (by omega)] at h1 | rw [if_neg (by omega)] at h1)); exact h1), (by omega), (by omega), (by omega)⟩)
    | ((with_reducible refine Test.empty (fun h => ?_) (fun h => ?_)))
    | (with_reducible refine Test.tt ?_)
    | (with_reducible refine Test.ff ?_)
    | ((with_reducible refine Test.dt ?_ ?_); omega)
    | ((with_reducible refine Test.df ?_ ?_); omega)
    | (with_reducible refine Test.d (fun h => ?_) (fun h => ?_))
    | ((with_reducible refine Test.ieT ?_ ?_); omega)
    | ((with_reducible refine Test.ieF ?_ ?_); omega)
    | ((with_reducible refine Test.neT ?_ ?_); omega)
    | ((with_reducible refine Test.neF ?_ ?_); omega)
    | (with_reducible refine Test.ie (fun h => ?_) (fun h => ?_))
    | (with_reducible refine Test.ne (fun h => ?_) (fun h => ?_))
    | ((with_reducible refine Test.b ?_ ?_); (focus first | assumption | (simp [negB]; done) | exact rfl))
    | ((with_reducible refine Test.nb ?_ ?_); (focus first | assumption | (simp [negB]; done) | exact rfl))
    | (with_reducible refine Test.mk (fun h => ?_) (fun h => ?_))
    | (with_reducible refine Arith.bv8 ?_)
    | (with_reducible refine Arith.bv16 ?_)
    | (with_reducible refine Arith.bv32 ?_)
    | (with_reducible refine Arith.bv64 ?_)
    | ((with_reducible refine Arith.i64 ?_ ?_); omega)
    | ((with_reducible refine Arith.u64 ?_ ?_); omega)
    | ((with_reducible refine Arith.u32 ?_ ?_); omega)
    | ((with_reducible refine Arith.u16 ?_ ?_); omega)
    | ((with_reducible refine Arith.u8 ?_ ?_); omega)
    | ((with_reducible refine Arith.i32 ?_ ?_); omega)
    | ((with_reducible refine Arith.i64 ?_ ?_); simp (discharger := omega) only [Int.tdiv_eq_ediv_of_nonneg, shr_u8_4, shl_u8_4, shr_u16_4, shl_u16_4, shr_u16_8, shl_u16_8, shr_u32_4, shl_u32_4, shr_u32_8, shl_u32_8, shr_u32_16, shl_u32_16, shr_u32_24, shl_u32_24, shr_u64_4, shl_u64_4, shr_u64_8, shl_u64_8, shr_u64_16, shl_u64_16, shr_u64_24, shl_u64_24, shr_u64_40, shl_u64_40, shr_i64_4, shl_i64_4, shr_i64_8, shl_i64_8, shr_i64_16, shl_i64_16, shr_i64_24, shl_i64_24, shr_i64_40, shl_i64_40]; omega)
    | ((with_reducible refine Arith.u64 ?_ ?_); simp (discharger := omega) only [Int.tdiv_eq_ediv_of_nonneg, shr_u8_4, shl_u8_4, shr_u16_4, shl_u16_4, shr_u16_8, shl_u16_8, shr_u32_4, shl_u32_4, shr_u32_8, shl_u32_8, shr_u32_16, shl_u32_16, shr_u32_24, shl_u32_24, shr_u64_4, shl_u64_4, shr_u64_8, shl_u64_8, shr_u64_16, shl_u64_16, shr_u64_24, shl_u64_24, shr_u64_40, shl_u64_40, shr_i64_4, shl_i64_4, shr_i64_8, shl_i64_8, shr_i64_16, shl_i64_16, shr_i64_24, shl_i64_24, shr_i64_40, shl_i64_40]; omega)
    | ((with_reducible refine Arith.u32 ?_ ?_); simp (discharger := omega) only [Int.tdiv_eq_ediv_of_nonneg, shr_u8_4, shl_u8_4, shr_u16_4, shl_u16_4, shr_u16_8, shl_u16_8, shr_u32_4, shl_u32_4, shr_u32_8, shl_u32_8, shr_u32_16, shl_u32_16, shr_u32_24, shl_u32_24, shr_u64_4, shl_u64_4, shr_u64_8, shl_u64_8, shr_u64_16, shl_u64_16, shr_u64_24, shl_u64_24, shr_u64_40, shl_u64_40, shr_i64_4, shl_i64_4, shr_i64_8, shl_i64_8, shr_i64_16, shl_i64_16, shr_i64_24, shl_i64_24, shr_i64_40, shl_i64_40]; omega)
    | ((with_reducible refine Arith.u16 ?_ ?_); simp (discharger := omega) only [Int.tdiv_eq_ediv_of_nonneg, shr_u8_4, shl_u8_4, shr_u16_4, shl_u16_4, shr_u16_8, shl_u16_8, shr_u32_4, shl_u32_4, shr_u32_8, shl_u32_8, shr_u32_16, shl_u32_16, shr_u32_24, shl_u32_24, shr_u64_4, shl_u64_4, shr_u64_8, shl_u64_8, shr_u64_16, shl_u64_16, shr_u64_24, shl_u64_24, shr_u64_40, shl_u64_40, shr_i64_4, shl_i64_4, shr_i64_8, shl_i64_8, shr_i64_16, shl_i64_16, shr_i64_24, shl_i64_24, shr_i64_40, shl_i64_40]; omega)
    | ((with_reducible refine Arith.u8 ?_ ?_); simp (discharger := omega) only [Int.tdiv_eq_ediv_of_nonneg, shr_u8_4, shl_u8_4, shr_u16_4, shl_u16_4, shr_u16_8, shl_u16_8, shr_u32_4, shl_u32_4, shr_u32_8, shl_u32_8, shr_u32_16, shl_u32_16, shr_u32_24, shl_u32_24, shr_u64_4, shl_u64_4, shr_u64_8, shl_u64_8, shr_u64_16, shl_u64_16, shr_u64_24, shl_u64_24, shr_u64_40, shl_u64_40, shr_i64_4, shl_i64_4, shr_i64_8, shl_i64_8, shr_i64_16, shl_i64_16, shr_i64_24, shl_i64_24, shr_i64_40, shl_i64_40]; omega)
    | (with_reducible refine Arith.mk ?_)
    | (with_reducible refine Ends.mk ?_))
    all_goals first | (refine ⟨?_, rfl⟩; (repeat (first | rw [if_pos (by omega)] at h1 | rw [if_neg (by omega)] at h1)); cases h1; rfl)
set_option maxHeartbeats 6000000 in
theorem rdec_look (x y : Int) (s : ByteArray) (hs : s.size ≤ 1000000) (hx : 0 ≤ x ∧ x ≤ 4294967295) (hy : 0 ≤ y ∧ y ≤ 4294967295) (Rm Rs Re : Int) (h1 : opt16 s = (Rm, Rs, Re)) : Det Try.prog 39 [.o (.int .u32 x), .o (.int .u32 y), .o (.str s)] [] (.t [.a (dec16 x y s), .o (.int .i64 (dec16e x y s))]) [] := by
  have b12 := bAt_bd s (Int.toNat 12)
  have RD : (s.extract (Int.toNat 20) (4 * (bAt s (Int.toNat 12) / 16)).toNat).size ≤ 40 → Det Try.prog 62 [.o (.str (s.extract (Int.toNat 20) (4 * (bAt s (Int.toNat 12) / 16)).toNat))] [] (.t [.o (.int .u16 Rm), .o (.int .i64 Rs), .o (.int .i64 Re)]) [] := fun h => rread_det _ h Rm Rs Re h1
  refine can_of_W known mix Try.func39 (by kernel_rfl) ok_ref16_Decode (Nat.le_of_ble_eq_true rfl) ?_
  repeat' ((conv => whnf); first
    | ((with_reducible refine Look.mk ?_); refine ⟨_, rfl, ?_⟩)
    | ((with_reducible refine LookN.zeros ?_))
    | ((with_reducible refine LookN.bytes ?_ ?_); (simp; done))
    | ((with_reducible refine BytesW.bytes ?_))
    | ((with_reducible refine Look.byte ?_ ?_); omega)
    | ((with_reducible refine Look.setb ?_ ?_ ?_); exact bv8_bd _; omega)
    | ((with_reducible refine LookN.setb ?_ ?_ ?_); exact bv8_bd _; omega)
    | ((with_reducible refine LookN.mk ?_); refine ⟨_, rfl, ?_⟩)
    | ((with_reducible refine Need.mk ?_ ?_); first | ((with_reducible refine needB ?_); kernel_rfl) | exact rfl | trivial | omega | exact Nat.le_of_ble_eq_true rfl | (exact ⟨rfl, by omega⟩) | (intro h; first | rfl | cases h) | (simp only [lenS_text, lenS_setN, lenS_zeros]; omega) | (simp only [ByteArray.size_append, size_lit, List.size_toArray, List.length_cons, List.length_nil, Sp.ofB_size, Sp.headB_size]; omega))
    | ((with_reducible refine BytesW.mk ?_); refine ⟨_, rfl, ?_⟩)
    | (with_reducible refine CallW.det (rn2 s _ (by omega) (by omega) (by omega)) ?_)
    | (with_reducible refine CallW.det (rn4 s _ (by omega) (by omega) (by omega)) ?_)
    | (with_reducible refine CallW.det (rRight _ (by simp only [ByteArray.size_append, Sp.headB_size]; unfold maxLen; omega)) ?_)
    | (with_reducible refine CallW.det (rHead _ _ _ _ (by omega) (by omega) (by omega) (by omega)) ?_)
    | (with_reducible refine CallW.det (syn_det ..) ?_)
    | (with_reducible refine CallW.det (RD (by rw [ByteArray.size_extract]; omega)) ?_)
    | ((with_reducible refine Arith.shr8 ?_ ?_); omega)
    | (with_reducible refine Arith.n2i ?_)
    | (with_reducible refine Arith.n4i ?_)
    | ((with_reducible refine Test.empty (fun h => ?_) (fun h => ?_)))
    | (with_reducible refine Test.tt ?_)
    | (with_reducible refine Test.ff ?_)
    | ((with_reducible refine Test.dt ?_ ?_); omega)
    | ((with_reducible refine Test.df ?_ ?_); omega)
    | (with_reducible refine Test.d (fun h => ?_) (fun h => ?_))
    | ((with_reducible refine Test.ieT ?_ ?_); omega)
    | ((with_reducible refine Test.ieF ?_ ?_); omega)
    | ((with_reducible refine Test.neT ?_ ?_); omega)
    | ((with_reducible refine Test.neF ?_ ?_); omega)
    | (with_reducible refine Test.ie (fun h => ?_) (fun h => ?_))
    | (with_reducible refine Test.ne (fun h => ?_) (fun h => ?_))
    | ((with_reducible refine Test.b ?_ ?_); (focus first | assumption | (simp [negB]; done) | exact rfl))
    | ((with_reducible refine Test.nb ?_ ?_); (focus first | assumption | (simp [negB]; done) | exact rfl))
    | (with_reducible refine Test.mk (fun h => ?_) (fun h => ?_))
    | (with_reducible refine Arith.bv8 ?_)
    | (with_reducible refine Arith.bv16 ?_)
    | (with_reducible refine Arith.bv32 ?_)
    | (with_reducible refine Arith.bv64 ?_)
    | ((with_reducible refine Arith.i64 ?_ ?_); omega)
    | ((with_reducible refine Arith.u64 ?_ ?_); omega)
    | ((with_reducible refine Arith.u32 ?_ ?_); omega)
    | ((with_reducible refine Arith.u16 ?_ ?_); omega)
    | ((with_reducible refine Arith.u8 ?_ ?_); omega)
    | ((with_reducible refine Arith.i32 ?_ ?_); omega)
    | ((with_reducible refine Arith.i64 ?_ ?_); simp (discharger := omega) only [Int.tdiv_eq_ediv_of_nonneg, shr_u8_4, shl_u8_4, shr_u16_4, shl_u16_4, shr_u16_8, shl_u16_8, shr_u32_4, shl_u32_4, shr_u32_8, shl_u32_8, shr_u32_16, shl_u32_16, shr_u32_24, shl_u32_24, shr_u64_4, shl_u64_4, shr_u64_8, shl_u64_8, shr_u64_16, shl_u64_16, shr_u64_24, shl_u64_24, shr_u64_40, shl_u64_40, shr_i64_4, shl_i64_4, shr_i64_8, shl_i64_8, shr_i64_16, shl_i64_16, shr_i64_24, shl_i64_24, shr_i64_40, shl_i64_40]; omega)
    | ((with_reducible refine Arith.u64 ?_ ?_); simp (discharger := omega) only [Int.tdiv_eq_ediv_of_nonneg, shr_u8_4, shl_u8_4, shr_u16_4, shl_u16_4, shr_u16_8, shl_u16_8, shr_u32_4, shl_u32_4, shr_u32_8, shl_u32_8, shr_u32_16, shl_u32_16, shr_u32_24, shl_u32_24, shr_u64_4, shl_u64_4, shr_u64_8, shl_u64_8, shr_u64_16, shl_u64_16, shr_u64_24, shl_u64_24, shr_u64_40, shl_u64_40, shr_i64_4, shl_i64_4, shr_i64_8, shl_i64_8, shr_i64_16, shl_i64_16, shr_i64_24, shl_i64_24, shr_i64_40, shl_i64_40]; omega)
    | ((with_reducible refine Arith.u32 ?_ ?_); simp (discharger := omega) only [Int.tdiv_eq_ediv_of_nonneg, shr_u8_4, shl_u8_4, shr_u16_4, shl_u16_4, shr_u16_8, shl_u16_8, shr_u32_4, shl_u32_4, shr_u32_8, shl_u32_8, shr_u32_16, shl_u32_16, shr_u32_24, shl_u32_24, shr_u64_4, shl_u64_4, shr_u64_8, shl_u64_8, shr_u64_16, shl_u64_16, shr_u64_24, shl_u64_24, shr_u64_40, shl_u64_40, shr_i64_4, shl_i64_4, shr_i64_8, shl_i64_8, shr_i64_16, shl_i64_16, shr_i64_24, shl_i64_24, shr_i64_40, shl_i64_40]; omega)
    | ((with_reducible refine Arith.u16 ?_ ?_); simp (discharger := omega) only [Int.tdiv_eq_ediv_of_nonneg, shr_u8_4, shl_u8_4, shr_u16_4, shl_u16_4, shr_u16_8, shl_u16_8, shr_u32_4, shl_u32_4, shr_u32_8, shl_u32_8, shr_u32_16, shl_u32_16, shr_u32_24, shl_u32_24, shr_u64_4, shl_u64_4, shr_u64_8, shl_u64_8, shr_u64_16, shl_u64_16, shr_u64_24, shl_u64_24, shr_u64_40, shl_u64_40, shr_i64_4, shl_i64_4, shr_i64_8, shl_i64_8, shr_i64_16, shl_i64_16, shr_i64_24, shl_i64_24, shr_i64_40, shl_i64_40]; omega)
    | ((with_reducible refine Arith.u8 ?_ ?_); simp (discharger := omega) only [Int.tdiv_eq_ediv_of_nonneg, shr_u8_4, shl_u8_4, shr_u16_4, shl_u16_4, shr_u16_8, shl_u16_8, shr_u32_4, shl_u32_4, shr_u32_8, shl_u32_8, shr_u32_16, shl_u32_16, shr_u32_24, shl_u32_24, shr_u64_4, shl_u64_4, shr_u64_8, shl_u64_8, shr_u64_16, shl_u64_16, shr_u64_24, shl_u64_24, shr_u64_40, shl_u64_40, shr_i64_4, shl_i64_4, shr_i64_8, shl_i64_8, shr_i64_16, shl_i64_16, shr_i64_24, shl_i64_24, shr_i64_40, shl_i64_40]; omega)
    | (with_reducible refine Arith.mk ?_)
    | (with_reducible refine Ends.mk ?_))
  all_goals clear RD
  all_goals first
    | (refine ⟨?_, rfl⟩; have hE := dec_short x y s (by assumption); rw [dec_none x y s (by rw [hE]; decide), hE])
    | (refine ⟨?_, rfl⟩; have hE := dec_form x y s (by assumption) (by assumption); rw [dec_none x y s (by rw [hE]; decide), hE])
    | (refine ⟨?_, rfl⟩; have hE := dec_cut x y s (by assumption) (by assumption) (by assumption); rw [dec_none x y s (by rw [hE]; decide), hE])
    | (refine ⟨?_, rfl⟩; have hE := dec_sum x y s (by assumption) (by assumption) (by assumption) (by assumption); rw [dec_none x y s (by rw [hE]; decide), hE])
    | (refine ⟨?_, rfl⟩; have hE := dec_opt x y s Rm Rs Re h1 (by assumption) (by assumption) (by assumption) (by assumption); rw [dec_none x y s (by rw [hE]; assumption), hE])
    | (refine ⟨?_, rfl⟩; have hE := (dec_opt x y s Rm Rs Re h1 (by assumption) (by assumption) (by assumption) (by assumption)).trans (show Re = 0 by assumption); rw [dec_yes x y s Rm Rs Re h1 hE, hE, if_pos (bne_iff_ne.2 (by assumption)), if_pos (bne_iff_ne.2 (by assumption))]; rfl)
    | (refine ⟨?_, rfl⟩; have hE := (dec_opt x y s Rm Rs Re h1 (by assumption) (by assumption) (by assumption) (by assumption)).trans (show Re = 0 by assumption); rw [dec_yes x y s Rm Rs Re h1 hE, hE, if_neg (fun e => absurd (by assumption) (bne_iff_ne.1 e)), if_neg (fun e => absurd (by assumption) (bne_iff_ne.1 e))]; rfl)
def vf_law16_alive : VFn := ⟨(.seq (.reg [
    ⟨(some 0), .mv (.c (.p (.o (.bool false)))), none, 0⟩] 0 none) (.seq (.reg [
    ⟨(some 16), .bld [.int .u32 0, .int .u16 0] [(0, 1, (.c (.p (.o (.int .u32 1))))), (1, 1, (.c (.p (.o (.int .u16 5)))))], none, 0⟩,
    ⟨(some 17), .bld [.int .u32 0, .int .u16 0] [(0, 1, (.c (.p (.o (.int .u32 2))))), (1, 1, (.c (.p (.o (.int .u16 80)))))], none, 0⟩,
    ⟨(some 18), .bld [.int .u32 0, .int .u16 0, .int .u32 0, .int .u16 0] [(0, 2, (.t 16)), (2, 2, (.t 17))], none, 0⟩,
    ⟨(some 19), .bld [.int .u32 0, .int .u16 0, .int .u32 0, .int .u16 0, .int .u32 0, .int .u32 0, .int .u8 0, .int .u16 0, .int .u16 0, .int .u16 0, .int .i64 0, .str ⟨#[]⟩] [(0, 4, (.t 18)), (4, 1, (.c (.p (.o (.int .u32 7))))), (6, 1, (.c (.p (.o (.int .u8 2))))), (9, 1, (.c (.p (.o (.int .u16 1460))))), (10, 1, (.c (.p (.o (.int .i64 7)))))], none, 0⟩,
    ⟨(some 1), .new [.int .u32 0, .int .u16 0, .int .u32 0, .int .u16 0, .int .u32 0, .int .u32 0, .int .u8 0, .int .u16 0, .int .u16 0, .int .u16 0, .int .i64 0, .str ⟨#[]⟩], none, 0⟩,
    ⟨none, .st 12 (.t 1) (.t 19), none, 1⟩] 1 none) (.seq (.reg [
    ⟨(some 21), .ld (some 12) (.t 1), none, 0⟩,
    ⟨(some 22), .call 36 [(.t 21)] 0, none, 0⟩,
    ⟨(some 20), .mv (.t 22), none, 0⟩,
    ⟨(some 23), .ext 0 (.t 20), none, 0⟩,
    ⟨(some 24), .ext 1 (.t 20), none, 0⟩,
    ⟨(some 2), .mv (.t 23), none, 0⟩,
    ⟨(some 3), .mv (.t 24), none, 0⟩] 0 none) (.seq (.reg [
    ⟨(some 26), .mv (.t 2), none, 0⟩,
    ⟨(some 27), .call 38 [(.c (.p (.o (.int .u32 1)))), (.c (.p (.o (.int .u32 2)))), (.t 26)] 0, none, 0⟩,
    ⟨(some 25), .mv (.t 27), none, 0⟩,
    ⟨(some 28), .ext 0 (.t 25), none, 0⟩,
    ⟨(some 29), .ext 1 (.t 25), none, 0⟩,
    ⟨(some 4), .new [.int .u32 0, .int .u16 0, .int .u32 0, .int .u16 0, .int .u32 0, .int .u32 0, .int .u8 0, .int .u16 0, .int .u16 0, .int .u16 0, .int .i64 0, .str ⟨#[]⟩], none, 0⟩,
    ⟨none, .st 12 (.t 4) (.t 28), none, 1⟩,
    ⟨(some 5), .mv (.t 29), none, 1⟩] 1 none) (.seq (.reg [
    ⟨(some 31), .mv (.t 2), none, 0⟩,
    ⟨(some 32), .call 38 [(.c (.p (.o (.int .u32 1)))), (.c (.p (.o (.int .u32 3)))), (.t 31)] 0, none, 0⟩,
    ⟨(some 30), .mv (.t 32), none, 0⟩,
    ⟨(some 33), .ext 0 (.t 30), none, 0⟩,
    ⟨(some 34), .ext 1 (.t 30), none, 0⟩,
    ⟨(some 6), .new [.int .u32 0, .int .u16 0, .int .u32 0, .int .u16 0, .int .u32 0, .int .u32 0, .int .u8 0, .int .u16 0, .int .u16 0, .int .u16 0, .int .i64 0, .str ⟨#[]⟩], none, 0⟩,
    ⟨none, .st 12 (.t 6) (.t 33), none, 1⟩,
    ⟨(some 7), .mv (.t 34), none, 1⟩] 1 none) (.seq (.reg [
    ⟨(some 36), .ld (some 12) (.t 1), none, 0⟩,
    ⟨(some 37), .call 40 [(.t 36)] 0, none, 0⟩,
    ⟨(some 35), .mv (.t 37), none, 0⟩,
    ⟨(some 38), .ext 0 (.t 35), none, 0⟩,
    ⟨(some 39), .ext 1 (.t 35), none, 0⟩,
    ⟨(some 8), .new [.int .u32 0, .int .u16 0, .int .u32 0, .int .u16 0, .int .u32 0, .int .u32 0, .int .u8 0, .int .u16 0, .int .u16 0, .int .u16 0, .int .i64 0, .str ⟨#[]⟩], none, 0⟩,
    ⟨none, .st 12 (.t 8) (.t 38), none, 1⟩,
    ⟨(some 9), .mv (.t 39), none, 1⟩] 1 none) (.seq (.reg [
    ⟨(some 41), .bld [.int .u32 0, .int .u16 0, .int .u32 0, .int .u16 0, .int .u32 0, .int .u32 0, .int .u8 0, .int .u16 0, .int .u16 0, .int .u16 0, .int .i64 0, .str ⟨#[]⟩] [(6, 1, (.c (.p (.o (.int .u8 16))))), (5, 1, (.c (.p (.o (.int .u32 9))))), (10, 1, (.c (.p (.o (.int .i64 (-1))))))], none, 0⟩,
    ⟨(some 42), .call 40 [(.t 41)] 0, none, 0⟩,
    ⟨(some 40), .mv (.t 42), none, 0⟩,
    ⟨(some 43), .ext 0 (.t 40), none, 0⟩,
    ⟨(some 44), .ext 1 (.t 40), none, 0⟩,
    ⟨(some 10), .new [.int .u32 0, .int .u16 0, .int .u32 0, .int .u16 0, .int .u32 0, .int .u32 0, .int .u8 0, .int .u16 0, .int .u16 0, .int .u16 0, .int .i64 0, .str ⟨#[]⟩], none, 0⟩,
    ⟨none, .st 12 (.t 10) (.t 43), none, 1⟩,
    ⟨(some 11), .mv (.t 44), none, 1⟩] 1 none) (.seq (.reg [
    ⟨(some 46), .ld (some 12) (.t 8), none, 0⟩,
    ⟨(some 47), .call 40 [(.t 46)] 0, none, 0⟩,
    ⟨(some 45), .mv (.t 47), none, 0⟩,
    ⟨(some 48), .ext 0 (.t 45), none, 0⟩,
    ⟨(some 49), .ext 1 (.t 45), none, 0⟩,
    ⟨(some 12), .new [.int .u32 0, .int .u16 0, .int .u32 0, .int .u16 0, .int .u32 0, .int .u32 0, .int .u8 0, .int .u16 0, .int .u16 0, .int .u16 0, .int .i64 0, .str ⟨#[]⟩], none, 0⟩,
    ⟨none, .st 12 (.t 12) (.t 48), none, 1⟩,
    ⟨(some 13), .mv (.t 49), none, 1⟩] 1 none) (.seq (.reg [
    ⟨(some 51), .bld [.int .u32 0, .int .u16 0, .int .u32 0, .int .u16 0, .int .u32 0, .int .u32 0, .int .u8 0, .int .u16 0, .int .u16 0, .int .u16 0, .int .i64 0, .str ⟨#[]⟩] [(6, 1, (.c (.p (.o (.int .u8 16))))), (9, 1, (.c (.p (.o (.int .u16 9))))), (10, 1, (.c (.p (.o (.int .i64 (-1))))))], none, 0⟩,
    ⟨(some 52), .call 36 [(.t 51)] 0, none, 0⟩,
    ⟨(some 50), .mv (.t 52), none, 0⟩,
    ⟨(some 53), .ext 0 (.t 50), none, 0⟩,
    ⟨(some 54), .ext 1 (.t 50), none, 0⟩,
    ⟨(some 14), .mv (.t 53), none, 0⟩,
    ⟨(some 15), .mv (.t 54), none, 0⟩] 0 none) (.seq (.reg [
    ⟨(some 55), .mv (.t 2), none, 0⟩,
    ⟨(some 56), .len false (.t 55), none, 0⟩,
    ⟨(some 57), .bin .eql (.t 56) (.c (.p (.o (.int .i64 28)))), none, 0⟩,
    ⟨(some 58), .mv (.t 57), none, 0⟩,
    ⟨(some 59), .mv (.t 3), (some (58, true)), 0⟩,
    ⟨(some 60), .bin .eql (.t 59) (.c (.p (.o (.int .i64 0)))), (some (58, true)), 0⟩,
    ⟨(some 61), .pick (.t 58) (.t 60) (.c (.p (.o (.bool false)))), none, 0⟩,
    ⟨(some 62), .mv (.t 61), none, 0⟩,
    ⟨(some 63), .ld (some 12) (.t 4), (some (62, true)), 0⟩,
    ⟨(some 64), .ld (some 12) (.t 1), (some (62, true)), 0⟩,
    ⟨(some 65), .eq (.flat [.int .u32, .int .u16, .int .u32, .int .u16, .int .u32, .int .u32, .int .u8, .int .u16, .int .u16, .int .u16, .int .i64, .str]) false (.t 63) (.t 64), (some (62, true)), 0⟩,
    ⟨(some 66), .pick (.t 62) (.t 65) (.c (.p (.o (.bool false)))), none, 0⟩,
    ⟨(some 67), .mv (.t 66), none, 0⟩,
    ⟨(some 68), .mv (.t 5), (some (67, true)), 0⟩,
    ⟨(some 69), .bin .eql (.t 68) (.c (.p (.o (.int .i64 0)))), (some (67, true)), 0⟩,
    ⟨(some 70), .pick (.t 67) (.t 69) (.c (.p (.o (.bool false)))), none, 0⟩,
    ⟨(some 71), .mv (.t 70), none, 0⟩,
    ⟨(some 72), .mv (.t 7), (some (71, true)), 0⟩,
    ⟨(some 73), .bin .eql (.t 72) (.c (.p (.o (.int .i64 101)))), (some (71, true)), 0⟩,
    ⟨(some 74), .pick (.t 71) (.t 73) (.c (.p (.o (.bool false)))), none, 0⟩,
    ⟨(some 75), .mv (.t 74), none, 0⟩,
    ⟨(some 76), .mv (.t 9), (some (75, true)), 0⟩,
    ⟨(some 77), .pick (.t 75) (.t 76) (.c (.p (.o (.bool false)))), none, 0⟩,
    ⟨(some 78), .mv (.t 77), none, 0⟩,
    ⟨(some 79), .fad 6 (.t 8), (some (78, true)), 0⟩,
    ⟨(some 80), .ld none (.t 79), (some (78, true)), 0⟩,
    ⟨(some 81), .bin .eql (.t 80) (.c (.p (.o (.int .u8 20)))), (some (78, true)), 0⟩,
    ⟨(some 82), .pick (.t 78) (.t 81) (.c (.p (.o (.bool false)))), none, 0⟩,
    ⟨(some 83), .mv (.t 82), none, 0⟩,
    ⟨(some 84), .fad 5 (.t 8), (some (83, true)), 0⟩,
    ⟨(some 85), .ld none (.t 84), (some (83, true)), 0⟩,
    ⟨(some 86), .bin .eql (.t 85) (.c (.p (.o (.int .u32 8)))), (some (83, true)), 0⟩,
    ⟨(some 87), .pick (.t 83) (.t 86) (.c (.p (.o (.bool false)))), none, 0⟩,
    ⟨(some 88), .mv (.t 87), none, 0⟩,
    ⟨(some 89), .fad 0 (.t 8), (some (88, true)), 0⟩,
    ⟨(some 90), .fad 2 (.t 89), (some (88, true)), 0⟩,
    ⟨(some 91), .fad 1 (.t 90), (some (88, true)), 0⟩,
    ⟨(some 92), .ld none (.t 91), (some (88, true)), 0⟩,
    ⟨(some 93), .bin .eql (.t 92) (.c (.p (.o (.int .u16 5)))), (some (88, true)), 0⟩,
    ⟨(some 94), .pick (.t 88) (.t 93) (.c (.p (.o (.bool false)))), none, 0⟩,
    ⟨(some 95), .mv (.t 94), none, 0⟩,
    ⟨(some 96), .mv (.t 11), (some (95, true)), 0⟩,
    ⟨(some 97), .pick (.t 95) (.t 96) (.c (.p (.o (.bool false)))), none, 0⟩,
    ⟨(some 98), .mv (.t 97), none, 0⟩,
    ⟨(some 99), .fad 6 (.t 10), (some (98, true)), 0⟩,
    ⟨(some 100), .ld none (.t 99), (some (98, true)), 0⟩,
    ⟨(some 101), .bin .eql (.t 100) (.c (.p (.o (.int .u8 4)))), (some (98, true)), 0⟩,
    ⟨(some 102), .pick (.t 98) (.t 101) (.c (.p (.o (.bool false)))), none, 0⟩,
    ⟨(some 103), .mv (.t 102), none, 0⟩,
    ⟨(some 104), .fad 4 (.t 10), (some (103, true)), 0⟩,
    ⟨(some 105), .ld none (.t 104), (some (103, true)), 0⟩,
    ⟨(some 106), .bin .eql (.t 105) (.c (.p (.o (.int .u32 9)))), (some (103, true)), 0⟩,
    ⟨(some 107), .pick (.t 103) (.t 106) (.c (.p (.o (.bool false)))), none, 0⟩,
    ⟨(some 108), .mv (.t 107), none, 0⟩,
    ⟨(some 109), .mv (.t 13), (some (108, true)), 0⟩,
    ⟨(some 110), .un .not (.t 109), (some (108, true)), 0⟩,
    ⟨(some 111), .pick (.t 108) (.t 110) (.c (.p (.o (.bool false)))), none, 0⟩,
    ⟨(some 112), .mv (.t 111), none, 0⟩,
    ⟨(some 113), .mv (.t 15), (some (112, true)), 0⟩,
    ⟨(some 114), .bin .eql (.t 113) (.c (.p (.o (.int .i64 2)))), (some (112, true)), 0⟩,
    ⟨(some 115), .pick (.t 112) (.t 114) (.c (.p (.o (.bool false)))), none, 0⟩,
    ⟨(some 116), .mv (.t 115), none, 0⟩,
    ⟨(some 117), .ld (some 12) (.t 1), (some (116, true)), 0⟩,
    ⟨(some 118), .call 44 [(.t 117)] 0, (some (116, true)), 0⟩,
    ⟨(some 119), .bin .eql (.t 118) (.c (.p (.o (.int .u32 1)))), (some (116, true)), 0⟩,
    ⟨(some 120), .pick (.t 116) (.t 119) (.c (.p (.o (.bool false)))), none, 0⟩,
    ⟨(some 121), .mv (.t 120), none, 0⟩,
    ⟨(some 122), .ld (some 12) (.t 1), (some (121, true)), 0⟩,
    ⟨(some 123), .call 42 [(.t 122)] 0, (some (121, true)), 0⟩,
    ⟨(some 124), .pick (.t 121) (.t 123) (.c (.p (.o (.bool false)))), none, 0⟩,
    ⟨(some 0), .mv (.t 124), none, 0⟩] 0 none) .ret)))))))))),
  [.tmp 0], 125, [0, 1, 2, 3, 4, 5, 7, 8, 9, 10, 11, 13, 15]⟩
theorem ok_law16_alive : cFn Try.prog eqsT newsT vf_law16_alive.keep Try.f35 = some vf_law16_alive := by kernel_rfl
def vf_sum_Head : VFn := ⟨(.seq (.reg [
    ⟨(some 8), .mv (.c (.p (.o (.str ⟨#[]⟩)))), none, 0⟩] 0 none) (.seq (.reg [
    ⟨(some 9), .mv (.t 0), none, 0⟩,
    ⟨(some 10), .cvi .u64 (.t 9), none, 0⟩,
    ⟨(some 11), .call 49 [(.t 10), (.c (.p (.o (.int .i64 4))))] 0, none, 0⟩,
    ⟨(some 12), .mv (.t 1), none, 0⟩,
    ⟨(some 13), .cvi .u64 (.t 12), none, 0⟩,
    ⟨(some 14), .call 49 [(.t 13), (.c (.p (.o (.int .i64 4))))] 0, none, 0⟩,
    ⟨(some 15), .bin .add (.t 11) (.t 14), none, 0⟩,
    ⟨(some 16), .mv (.t 2), none, 0⟩,
    ⟨(some 17), .cvi .u64 (.t 16), none, 0⟩,
    ⟨(some 18), .call 49 [(.t 17), (.c (.p (.o (.int .i64 2))))] 0, none, 0⟩,
    ⟨(some 19), .bin .add (.t 15) (.t 18), none, 0⟩,
    ⟨(some 20), .mv (.t 3), none, 0⟩,
    ⟨(some 21), .cvi .u64 (.t 20), none, 0⟩,
    ⟨(some 22), .call 49 [(.t 21), (.c (.p (.o (.int .i64 2))))] 0, none, 0⟩,
    ⟨(some 23), .bin .add (.t 19) (.t 22), none, 0⟩,
    ⟨(some 8), .mv (.t 23), none, 0⟩] 0 none) .ret)),
  [.tmp 8], 24, [0, 1, 2, 3, 8]⟩
theorem ok_sum_Head : cFn Try.prog eqsT newsT vf_sum_Head.keep Try.f25 = some vf_sum_Head := by kernel_rfl
def vf_word_Of : VFn := ⟨(.seq (.reg [
    ⟨(some 4), .mv (.c (.p (.o (.str ⟨#[]⟩)))), none, 0⟩] 0 none) (.seq (.reg [
    ⟨(some 5), .new [.int .u8 0, .int .u8 0, .int .u8 0, .int .u8 0, .int .u8 0, .int .u8 0, .int .u8 0, .int .u8 0], none, 0⟩] 1 none) (.seq (.seq (.reg [
    ⟨(some 7), .mv (.c (.p (.o (.int .i64 0)))), none, 0⟩] 0 none) (.block 0 (.loop (.seq (.reg [
    ⟨(some 8), .bin .lss (.t 7) (.c (.p (.o (.int .i64 8)))), none, 0⟩] 0 none) (.seq (.cond (.t 8) .skip (.exit 0)) (.seq (.block 1 (.seq (.reg [
    ⟨(some 9), .mv (.t 7), none, 0⟩,
    ⟨(some 6), .mv (.t 9), none, 0⟩] 0 none) (.reg [
    ⟨(some 10), .mv (.t 6), none, 0⟩,
    ⟨(some 11), .bin .sub (.c (.p (.o (.int .i64 7)))) (.t 10), none, 0⟩,
    ⟨(some 12), .mv (.t 0), none, 0⟩,
    ⟨(some 13), .mv (.t 6), none, 0⟩,
    ⟨(some 14), .bin .mul (.c (.p (.o (.int .i64 8)))) (.t 13), none, 0⟩,
    ⟨(some 15), .bin .shr (.t 12) (.t 14), none, 0⟩,
    ⟨(some 16), .cvi .u8 (.t 15), none, 0⟩,
    ⟨(some 17), .iaa 8 1 (.t 5) (.t 11), none, 0⟩,
    ⟨none, .st 1 (.t 17) (.t 16), none, 0⟩] 0 none))) (.reg [
    ⟨(some 18), .bin .add (.t 7) (.c (.p (.o (.int .i64 1)))), none, 0⟩,
    ⟨(some 7), .mv (.t 18), none, 0⟩] 0 none))))))) (.seq (.reg [
    ⟨(some 19), .mv (.t 1), none, 0⟩,
    ⟨(some 20), .mnx true (.t 19) (.c (.p (.o (.int .i64 0)))), none, 0⟩,
    ⟨(some 21), .mnx false (.t 20) (.c (.p (.o (.int .i64 8)))), none, 0⟩,
    ⟨(some 22), .bin .sub (.c (.p (.o (.int .i64 8)))) (.t 21), none, 0⟩,
    ⟨(some 23), .sla 8 1 (.t 5) (some (.t 22)) none, none, 0⟩,
    ⟨(some 24), .b2s (.t 23), none, 0⟩,
    ⟨(some 4), .mv (.t 24), none, 0⟩] 0 none) .ret)))),
  [.tmp 4], 25, [0, 1, 4, 5, 6, 7]⟩
theorem ok_word_Of : cFn Try.prog eqsT newsT vf_word_Of.keep Try.f49 = some vf_word_Of := by kernel_rfl
def vf_word_Two : VFn := ⟨(.seq (.reg [
    ⟨(some 4), .mv (.c (.p (.o (.int .u16 0)))), none, 0⟩,
    ⟨(some 5), .mv (.c (.p (.o (.int .i64 0)))), none, 0⟩] 0 none) (.seq (.reg [
    ⟨(some 6), .mv (.t 0), none, 0⟩,
    ⟨(some 7), .mv (.t 1), none, 0⟩,
    ⟨(some 8), .call 69 [(.t 6), (.t 7), (.c (.p (.o (.int .i64 2))))] 0, none, 0⟩,
    ⟨(some 9), .ext 0 (.t 8), none, 0⟩,
    ⟨(some 10), .ext 1 (.t 8), none, 0⟩,
    ⟨(some 4), .mv (.t 9), none, 0⟩,
    ⟨(some 5), .mv (.t 10), none, 0⟩] 0 none) .ret)),
  [.tmp 4, .tmp 5], 11, [0, 1, 4, 5]⟩
theorem ok_word_Two : cFn Try.prog eqsT newsT vf_word_Two.keep Try.f50 = some vf_word_Two := by kernel_rfl
def vf_word_Four : VFn := ⟨(.seq (.reg [
    ⟨(some 4), .mv (.c (.p (.o (.int .u32 0)))), none, 0⟩,
    ⟨(some 5), .mv (.c (.p (.o (.int .i64 0)))), none, 0⟩] 0 none) (.seq (.reg [
    ⟨(some 6), .mv (.t 0), none, 0⟩,
    ⟨(some 7), .mv (.t 1), none, 0⟩,
    ⟨(some 8), .call 70 [(.t 6), (.t 7), (.c (.p (.o (.int .i64 4))))] 0, none, 0⟩,
    ⟨(some 9), .ext 0 (.t 8), none, 0⟩,
    ⟨(some 10), .ext 1 (.t 8), none, 0⟩,
    ⟨(some 4), .mv (.t 9), none, 0⟩,
    ⟨(some 5), .mv (.t 10), none, 0⟩] 0 none) .ret)),
  [.tmp 4, .tmp 5], 11, [0, 1, 4, 5]⟩
theorem ok_word_Four : cFn Try.prog eqsT newsT vf_word_Four.keep Try.f60 = some vf_word_Four := by kernel_rfl
def vf_word_read_uint16_ : VFn := ⟨(.seq (.reg [
    ⟨(some 6), .mv (.c (.p (.o (.int .u16 0)))), none, 0⟩,
    ⟨(some 7), .mv (.c (.p (.o (.int .i64 0)))), none, 0⟩] 0 none) (.seq (.reg [
    ⟨(some 12), .mv (.t 0), none, 0⟩,
    ⟨(some 13), .mv (.t 1), none, 0⟩,
    ⟨(some 14), .mv (.t 2), none, 0⟩,
    ⟨(some 15), .call 75 [(.t 12), (.t 13), (.t 14)] 0, none, 0⟩,
    ⟨(some 11), .mv (.t 15), none, 0⟩,
    ⟨(some 16), .ext 0 (.t 11), none, 0⟩,
    ⟨(some 17), .ext 1 (.t 11), none, 0⟩,
    ⟨(some 8), .mv (.t 16), none, 0⟩,
    ⟨(some 7), .mv (.t 17), none, 0⟩] 0 none) (.seq (.seq (.reg [
    ⟨(some 18), .mv (.t 8), none, 0⟩,
    ⟨(some 19), .s2b (.t 18), none, 0⟩,
    ⟨(some 20), .len true (.t 19), none, 1⟩,
    ⟨(some 21), .mv (.c (.p (.o (.int .i64 0)))), none, 1⟩] 1 none) (.block 0 (.loop (.seq (.reg [
    ⟨(some 22), .bin .lss (.t 21) (.t 20), none, 0⟩] 0 none) (.seq (.cond (.t 22) .skip (.exit 0)) (.seq (.block 1 (.seq (.reg [
    ⟨(some 23), .iad 1 (.t 19) (.t 21), none, 0⟩,
    ⟨(some 24), .ld none (.t 23), none, 0⟩,
    ⟨(some 10), .mv (.t 24), none, 0⟩] 0 none) (.reg [
    ⟨(some 25), .mv (.t 6), none, 0⟩,
    ⟨(some 26), .cvi .u64 (.t 25), none, 0⟩,
    ⟨(some 27), .bin .shl (.t 26) (.c (.p (.o (.int .u64 8)))), none, 0⟩,
    ⟨(some 28), .mv (.t 10), none, 0⟩,
    ⟨(some 29), .cvi .u64 (.t 28), none, 0⟩,
    ⟨(some 30), .bin .or (.t 27) (.t 29), none, 0⟩,
    ⟨(some 31), .cvi .u16 (.t 30), none, 0⟩,
    ⟨(some 6), .mv (.t 31), none, 0⟩] 0 none))) (.reg [
    ⟨(some 32), .bin .add (.t 21) (.c (.p (.o (.int .i64 1)))), none, 0⟩,
    ⟨(some 21), .mv (.t 32), none, 0⟩] 0 none))))))) (.seq (.reg [
    ⟨(some 33), .mv (.t 6), none, 0⟩,
    ⟨(some 34), .mv (.t 7), none, 0⟩,
    ⟨(some 6), .mv (.t 33), none, 0⟩,
    ⟨(some 7), .mv (.t 34), none, 0⟩] 0 none) .ret)))),
  [.tmp 6, .tmp 7], 35, [0, 1, 2, 6, 7, 8, 10, 19, 20, 21]⟩
theorem ok_word_read_uint16_ : cFn Try.prog eqsT newsT vf_word_read_uint16_.keep Try.f69 = some vf_word_read_uint16_ := by kernel_rfl
def vf_word_read_uint32_ : VFn := ⟨(.seq (.reg [
    ⟨(some 6), .mv (.c (.p (.o (.int .u32 0)))), none, 0⟩,
    ⟨(some 7), .mv (.c (.p (.o (.int .i64 0)))), none, 0⟩] 0 none) (.seq (.reg [
    ⟨(some 12), .mv (.t 0), none, 0⟩,
    ⟨(some 13), .mv (.t 1), none, 0⟩,
    ⟨(some 14), .mv (.t 2), none, 0⟩,
    ⟨(some 15), .call 75 [(.t 12), (.t 13), (.t 14)] 0, none, 0⟩,
    ⟨(some 11), .mv (.t 15), none, 0⟩,
    ⟨(some 16), .ext 0 (.t 11), none, 0⟩,
    ⟨(some 17), .ext 1 (.t 11), none, 0⟩,
    ⟨(some 8), .mv (.t 16), none, 0⟩,
    ⟨(some 7), .mv (.t 17), none, 0⟩] 0 none) (.seq (.seq (.reg [
    ⟨(some 18), .mv (.t 8), none, 0⟩,
    ⟨(some 19), .s2b (.t 18), none, 0⟩,
    ⟨(some 20), .len true (.t 19), none, 1⟩,
    ⟨(some 21), .mv (.c (.p (.o (.int .i64 0)))), none, 1⟩] 1 none) (.block 0 (.loop (.seq (.reg [
    ⟨(some 22), .bin .lss (.t 21) (.t 20), none, 0⟩] 0 none) (.seq (.cond (.t 22) .skip (.exit 0)) (.seq (.block 1 (.seq (.reg [
    ⟨(some 23), .iad 1 (.t 19) (.t 21), none, 0⟩,
    ⟨(some 24), .ld none (.t 23), none, 0⟩,
    ⟨(some 10), .mv (.t 24), none, 0⟩] 0 none) (.reg [
    ⟨(some 25), .mv (.t 6), none, 0⟩,
    ⟨(some 26), .cvi .u64 (.t 25), none, 0⟩,
    ⟨(some 27), .bin .shl (.t 26) (.c (.p (.o (.int .u64 8)))), none, 0⟩,
    ⟨(some 28), .mv (.t 10), none, 0⟩,
    ⟨(some 29), .cvi .u64 (.t 28), none, 0⟩,
    ⟨(some 30), .bin .or (.t 27) (.t 29), none, 0⟩,
    ⟨(some 31), .cvi .u32 (.t 30), none, 0⟩,
    ⟨(some 6), .mv (.t 31), none, 0⟩] 0 none))) (.reg [
    ⟨(some 32), .bin .add (.t 21) (.c (.p (.o (.int .i64 1)))), none, 0⟩,
    ⟨(some 21), .mv (.t 32), none, 0⟩] 0 none))))))) (.seq (.reg [
    ⟨(some 33), .mv (.t 6), none, 0⟩,
    ⟨(some 34), .mv (.t 7), none, 0⟩,
    ⟨(some 6), .mv (.t 33), none, 0⟩,
    ⟨(some 7), .mv (.t 34), none, 0⟩] 0 none) .ret)))),
  [.tmp 6, .tmp 7], 35, [0, 1, 2, 6, 7, 8, 10, 19, 20, 21]⟩
theorem ok_word_read_uint32_ : cFn Try.prog eqsT newsT vf_word_read_uint32_.keep Try.f70 = some vf_word_read_uint32_ := by kernel_rfl
def vf_word_Text : VFn := ⟨(.seq (.reg [
    ⟨(some 6), .mv (.c (.p (.o (.str ⟨#[]⟩)))), none, 0⟩,
    ⟨(some 7), .mv (.c (.p (.o (.int .i64 0)))), none, 0⟩] 0 none) (.seq (.block 0 (.seq (.reg [
    ⟨(some 9), .mv (.t 1), none, 0⟩,
    ⟨(some 10), .bin .lss (.t 9) (.c (.p (.o (.int .i64 0)))), none, 0⟩,
    ⟨(some 11), .mv (.t 10), none, 0⟩,
    ⟨(some 12), .mv (.t 2), (some (11, false)), 0⟩,
    ⟨(some 13), .bin .lss (.t 12) (.c (.p (.o (.int .i64 0)))), (some (11, false)), 0⟩,
    ⟨(some 14), .pick (.t 11) (.c (.p (.o (.bool true)))) (.t 13), none, 0⟩,
    ⟨(some 8), .mv (.t 14), none, 0⟩] 0 none) (.cond (.t 8) (.seq (.reg [
    ⟨(some 6), .mv (.c (.p (.o (.str ⟨#[]⟩)))), none, 0⟩,
    ⟨(some 7), .mv (.c (.p (.o (.int .i64 2)))), none, 0⟩] 0 none) .ret) (.seq (.reg [
    ⟨(some 16), .mv (.t 1), none, 0⟩,
    ⟨(some 17), .mv (.t 0), none, 0⟩,
    ⟨(some 18), .len false (.t 17), none, 0⟩,
    ⟨(some 19), .bin .gtr (.t 16) (.t 18), none, 0⟩,
    ⟨(some 20), .mv (.t 19), none, 0⟩,
    ⟨(some 21), .mv (.t 2), (some (20, false)), 0⟩,
    ⟨(some 22), .mv (.t 0), (some (20, false)), 0⟩,
    ⟨(some 23), .len false (.t 22), (some (20, false)), 0⟩,
    ⟨(some 24), .mv (.t 1), (some (20, false)), 0⟩,
    ⟨(some 25), .bin .sub (.t 23) (.t 24), (some (20, false)), 0⟩,
    ⟨(some 26), .bin .gtr (.t 21) (.t 25), (some (20, false)), 0⟩,
    ⟨(some 27), .pick (.t 20) (.c (.p (.o (.bool true)))) (.t 26), none, 0⟩,
    ⟨(some 15), .mv (.t 27), none, 0⟩] 0 none) (.cond (.t 15) (.seq (.reg [
    ⟨(some 6), .mv (.c (.p (.o (.str ⟨#[]⟩)))), none, 0⟩,
    ⟨(some 7), .mv (.c (.p (.o (.int .i64 10)))), none, 0⟩] 0 none) .ret) .skip))))) (.seq (.reg [
    ⟨(some 28), .mv (.t 0), none, 0⟩,
    ⟨(some 29), .mv (.t 1), none, 0⟩,
    ⟨(some 30), .mv (.t 1), none, 0⟩,
    ⟨(some 31), .mv (.t 2), none, 0⟩,
    ⟨(some 32), .bin .add (.t 30) (.t 31), none, 0⟩,
    ⟨(some 33), .sls (.t 28) (some (.t 29)) (some (.t 32)), none, 0⟩,
    ⟨(some 6), .mv (.t 33), none, 0⟩,
    ⟨(some 7), .mv (.c (.p (.o (.int .i64 0)))), none, 0⟩] 0 none) .ret))),
  [.tmp 6, .tmp 7], 34, [0, 1, 2, 6, 7]⟩
theorem ok_word_Text : cFn Try.prog eqsT newsT vf_word_Text.keep Try.f75 = some vf_word_Text := by kernel_rfl
def tab16 : List (FuncId × VFn) := [(35, vf_law16_alive), (36, vf_tcp_Encode), (38, vf_tcp_Decode), (40, vf_tcp_Answer), (42, vf_tcp_May), (44, vf_tcp_Len), (25, vf_sum_Head), (49, vf_word_Of), (57, vf_tcp_options), (50, vf_word_Two), (59, vf_tcp_read), (60, vf_word_Four), (61, vf_tcp_has), (65, vf_addr_Turn), (69, vf_word_read_uint16_), (70, vf_word_read_uint32_), (71, vf_tcp_has_1), (75, vf_word_Text)]
theorem tab16_ok : TabOk Try.prog tab16 := ⟨fnOk_of known mix Try.func35 (by kernel_rfl) ok_law16_alive, fnOk_of known mix Try.func36 (by kernel_rfl) ok_tcp_Encode, fnOk_of known mix Try.func38 (by kernel_rfl) ok_tcp_Decode, fnOk_of known mix Try.func40 (by kernel_rfl) ok_tcp_Answer, fnOk_of known mix Try.func42 (by kernel_rfl) ok_tcp_May, fnOk_of known mix Try.func44 (by kernel_rfl) ok_tcp_Len, fnOk_of known mix Try.func25 (by kernel_rfl) ok_sum_Head, fnOk_of known mix Try.func49 (by kernel_rfl) ok_word_Of, fnOk_of known mix Try.func57 (by kernel_rfl) ok_tcp_options, fnOk_of known mix Try.func50 (by kernel_rfl) ok_word_Two, fnOk_of known mix Try.func59 (by kernel_rfl) ok_tcp_read, fnOk_of known mix Try.func60 (by kernel_rfl) ok_word_Four, fnOk_of known mix Try.func61 (by kernel_rfl) ok_tcp_has, fnOk_of known mix Try.func65 (by kernel_rfl) ok_addr_Turn, fnOk_of known mix Try.func69 (by kernel_rfl) ok_word_read_uint16_, fnOk_of known mix Try.func70 (by kernel_rfl) ok_word_read_uint32_, fnOk_of known mix Try.func71 (by kernel_rfl) ok_tcp_has_1, fnOk_of known mix Try.func75 (by kernel_rfl) ok_word_Text, trivial⟩
theorem alive_det : Det Try.prog 35 [] [] (vB true) [] := execF_s tab16_ok base2_ok 40 _ _ _ _ _ (by kernel_rfl)
end L16
end Go.Proofs.Ytlpeefemffmpmaa.VM
