/- law 07 by the evaluator: EtherEnds. -/
import Derived.Test.YtnikpanebkknfaaDoorV07k
namespace Go.Proofs.YtnikpanebkknfaaDoor.VM
namespace G4
open Go.RowKit
set_option linter.unusedVariables false
set_option linter.unusedSimpArgs false
set_option maxRecDepth 100000
variable {G : Ground}
def vf_law07_EtherEnds : VFn := ⟨(.seq (.reg [
    ⟨(some 4), .mv (.c (.p (.o (.bool false)))), none, 0⟩] 0 none) (.seq (.reg [
    ⟨(some 14), .mv (.t 0), none, 0⟩,
    ⟨(some 15), .cvi .i64 (.t 14), none, 0⟩,
    ⟨(some 16), .bin .add (.c (.p (.o (.int .i64 65535)))) (.t 15), none, 0⟩,
    ⟨(some 5), .mv (.t 16), none, 0⟩] 0 none) (.seq (.reg [
    ⟨(some 17), .mv (.t 1), none, 0⟩,
    ⟨(some 18), .bin .and (.t 17) (.c (.p (.o (.int .u64 281474976710655)))), none, 0⟩,
    ⟨(some 1), .mv (.t 18), none, 0⟩] 0 none) (.seq (.reg [
    ⟨(some 19), .mv (.t 1), none, 0⟩,
    ⟨(some 20), .mv (.t 5), none, 0⟩,
    ⟨(some 21), .mks 1 1 [.int .u8 0] (.t 20) (.t 20), none, 0⟩,
    ⟨(some 22), .b2s (.t 21), none, 1⟩,
    ⟨(some 23), .bld [.int .u64 0, .int .u64 0, .int .u16 0, .str ⟨#[]⟩] [(0, 1, (.c (.p (.o (.int .u64 1))))), (1, 1, (.t 19)), (3, 1, (.t 22))], none, 1⟩,
    ⟨(some 6), .new [.int .u64 0, .int .u64 0, .int .u16 0, .str ⟨#[]⟩], none, 1⟩,
    ⟨none, .st 4 (.t 6) (.t 23), none, 2⟩] 2 none) (.seq (.reg [
    ⟨(some 24), .mv (.t 1), none, 0⟩,
    ⟨(some 25), .bin .shr (.t 24) (.c (.p (.o (.int .u64 40)))), none, 0⟩,
    ⟨(some 26), .bin .and (.t 25) (.c (.p (.o (.int .u64 1)))), none, 0⟩,
    ⟨(some 27), .bin .eql (.t 26) (.c (.p (.o (.int .u64 1)))), none, 0⟩,
    ⟨(some 7), .mv (.t 27), none, 0⟩] 0 none) (.seq (.reg [
    ⟨(some 29), .ld (some 4) (.t 6), none, 0⟩,
    ⟨(some 30), .call 13 [(.t 29)] 0, none, 0⟩,
    ⟨(some 28), .mv (.t 30), none, 0⟩,
    ⟨(some 31), .ext 0 (.t 28), none, 0⟩,
    ⟨(some 32), .ext 1 (.t 28), none, 0⟩,
    ⟨(some 8), .mv (.t 31), none, 0⟩,
    ⟨(some 9), .mv (.t 32), none, 0⟩] 0 none) (.seq (.reg [
    ⟨(some 34), .mv (.t 0), none, 0⟩,
    ⟨(some 35), .cvi .i64 (.t 34), none, 0⟩,
    ⟨(some 36), .bin .add (.c (.p (.o (.int .i64 65549)))) (.t 35), none, 0⟩,
    ⟨(some 37), .mks 1 1 [.int .u8 0] (.t 36) (.t 36), none, 0⟩,
    ⟨(some 38), .b2s (.t 37), none, 1⟩,
    ⟨(some 39), .call 14 [(.t 38)] 0, none, 1⟩,
    ⟨(some 33), .mv (.t 39), none, 1⟩,
    ⟨(some 40), .ext 0 (.t 33), none, 1⟩,
    ⟨(some 41), .ext 1 (.t 33), none, 1⟩,
    ⟨(some 10), .new [.int .u64 0, .int .u64 0, .int .u16 0, .str ⟨#[]⟩], none, 1⟩,
    ⟨none, .st 4 (.t 10) (.t 40), none, 2⟩,
    ⟨(some 11), .mv (.t 41), none, 2⟩] 2 none) (.seq (.reg [
    ⟨(some 43), .mv (.t 0), none, 0⟩,
    ⟨(some 44), .cvi .i64 (.t 43), none, 0⟩,
    ⟨(some 45), .bin .add (.c (.p (.o (.int .i64 60)))) (.t 44), none, 0⟩,
    ⟨(some 46), .mnx true (.c (.p (.o (.int .i64 0)))) (.t 45), none, 0⟩,
    ⟨(some 47), .mks 1 1 [.int .u8 0] (.t 46) (.t 46), none, 0⟩,
    ⟨(some 48), .b2s (.t 47), none, 1⟩,
    ⟨(some 49), .call 14 [(.t 48)] 0, none, 1⟩,
    ⟨(some 42), .mv (.t 49), none, 1⟩,
    ⟨(some 50), .ext 0 (.t 42), none, 1⟩,
    ⟨(some 51), .ext 1 (.t 42), none, 1⟩,
    ⟨(some 12), .new [.int .u64 0, .int .u64 0, .int .u16 0, .str ⟨#[]⟩], none, 1⟩,
    ⟨none, .st 4 (.t 12) (.t 50), none, 2⟩,
    ⟨(some 13), .mv (.t 51), none, 2⟩] 2 none) (.seq (.seq (.reg [
    ⟨(some 52), .mv (.t 9), none, 0⟩,
    ⟨(some 53), .bin .eql (.t 52) (.c (.p (.o (.int .i64 2)))), none, 0⟩,
    ⟨(some 54), .mv (.t 7), none, 0⟩,
    ⟨(some 55), .eq .bool true (.t 53) (.t 54), none, 0⟩,
    ⟨(some 56), .mv (.t 55), none, 0⟩,
    ⟨(some 57), .mv (.t 7), (some (56, false)), 0⟩,
    ⟨(some 58), .un .not (.t 57), (some (56, false)), 0⟩,
    ⟨(some 59), .mv (.t 58), (some (56, false)), 0⟩,
    ⟨(some 60), .mv (.t 9), (some (59, true)), 0⟩,
    ⟨(some 61), .bin .eql (.t 60) (.c (.p (.o (.int .i64 0)))), (some (59, true)), 0⟩,
    ⟨(some 62), .mv (.t 0), (some (59, true)), 0⟩,
    ⟨(some 63), .bin .leq (.t 62) (.c (.p (.o (.int .i8 0)))), (some (59, true)), 0⟩,
    ⟨(some 64), .eq .bool true (.t 61) (.t 63), (some (59, true)), 0⟩,
    ⟨(some 65), .pick (.t 59) (.t 64) (.c (.p (.o (.bool false)))), (some (56, false)), 0⟩,
    ⟨(some 66), .pick (.t 56) (.c (.p (.o (.bool true)))) (.t 65), none, 0⟩,
    ⟨(some 67), .mv (.t 66), none, 0⟩,
    ⟨(some 68), .mv (.t 9), (some (67, false)), 0⟩,
    ⟨(some 69), .bin .eql (.t 68) (.c (.p (.o (.int .i64 0)))), (some (67, false)), 0⟩,
    ⟨(some 70), .mv (.t 69), (some (67, false)), 0⟩,
    ⟨(some 71), .mv (.t 8), (some (70, true)), 0⟩,
    ⟨(some 72), .len false (.t 71), (some (70, true)), 0⟩,
    ⟨(some 73), .mv (.t 5), (some (70, true)), 0⟩,
    ⟨(some 74), .bin .add (.t 73) (.c (.p (.o (.int .i64 14)))), (some (70, true)), 0⟩,
    ⟨(some 75), .bin .neq (.t 72) (.t 74), (some (70, true)), 0⟩,
    ⟨(some 76), .pick (.t 70) (.t 75) (.c (.p (.o (.bool false)))), (some (67, false)), 0⟩,
    ⟨(some 77), .pick (.t 67) (.c (.p (.o (.bool true)))) (.t 76), none, 0⟩] 0 none) (.cond (.t 77) (.seq (.reg [
    ⟨(some 4), .mv (.c (.p (.o (.bool false)))), none, 0⟩] 0 none) .ret) .skip)) (.seq (.reg [
    ⟨(some 78), .mv (.t 11), none, 0⟩,
    ⟨(some 79), .bin .eql (.t 78) (.c (.p (.o (.int .i64 0)))), none, 0⟩,
    ⟨(some 80), .mv (.t 0), none, 0⟩,
    ⟨(some 81), .bin .leq (.t 80) (.c (.p (.o (.int .i8 0)))), none, 0⟩,
    ⟨(some 82), .eq .bool false (.t 79) (.t 81), none, 0⟩,
    ⟨(some 83), .mv (.t 82), none, 0⟩,
    ⟨(some 84), .mv (.t 13), (some (83, true)), 0⟩,
    ⟨(some 85), .bin .eql (.t 84) (.c (.p (.o (.int .i64 0)))), (some (83, true)), 0⟩,
    ⟨(some 86), .mv (.t 0), (some (83, true)), 0⟩,
    ⟨(some 87), .bin .geq (.t 86) (.c (.p (.o (.int .i8 0)))), (some (83, true)), 0⟩,
    ⟨(some 88), .eq .bool false (.t 85) (.t 87), (some (83, true)), 0⟩,
    ⟨(some 89), .pick (.t 83) (.t 88) (.c (.p (.o (.bool false)))), none, 0⟩,
    ⟨(some 90), .mv (.t 89), none, 0⟩,
    ⟨(some 91), .call 15 [] 0, (some (90, true)), 0⟩,
    ⟨(some 92), .pick (.t 90) (.t 91) (.c (.p (.o (.bool false)))), none, 0⟩,
    ⟨(some 4), .mv (.t 92), none, 0⟩] 0 none) .ret)))))))))),
  [.tmp 4], 93, [0, 1, 4, 5, 6, 7, 8, 9, 11, 13]⟩
theorem ok_law07_EtherEnds : cFn Tryd.prog eqsT newsT vf_law07_EtherEnds.keep Tryd.f3 = some vf_law07_EtherEnds := by kernel_rfl
theorem nAt_zer (N p n : Nat) : nAt (zer N) p n = 0 := by
  unfold nAt
  have e : (zer N).data.toList = List.replicate N 0 := by show (List.toArray _).toList = _; simp
  rw [e, List.drop_replicate, List.take_replicate]
  generalize min n (N - p) = m
  have : ∀ m, Sp.be (List.replicate m 0) = 0 := by
    intro m; induction m with
    | zero => rfl
    | succ m ih => rw [List.replicate_succ', Sp.be_snoc, ih]; rfl
  rw [this]; rfl
theorem enc_no1 (d : ByteArray) {m : Int} (hg : grp m = true) (hm : 0 ≤ m ∧ m ≤ 18446744073709551615) (hd : d.size ≤ 1000000) : Det G Tryd.prog 13 [.a [.int .u64 1, .int .u64 m, .int .u16 0, .str d]] [] (.t [.o (.str ⟨#[]⟩), .o (.int .i64 2)]) [] := by
  have h := enc_det (G := G) 1 m 0 d (by omega) hm (by omega) hd
  rw [show encS 1 m 0 d = ⟨#[]⟩ by unfold encS; rw [if_pos (.inr (.inr hg))], show encE 1 m d = 2 by unfold encE; rw [if_pos (.inr (.inr hg))]] at h; exact h
theorem encE_size {t f k : Int} {d : ByteArray} : encE t f d = 0 → (encS t f k d).size = max 60 (14 + d.size) := fun he => by
  unfold encE at he; unfold encS
  split at he
  · simp at he
  · rename_i h1; rw [if_neg h1]; split at he
    · simp at he
    · rename_i h2; rw [if_neg h2]; exact enc7_size t f k d
theorem decE_zer (N : Nat) : decE (zer N) = if N < 60 then 10 else if N > 65549 then 4 else 0 := by
  unfold decE; rw [zer_size, nAt_zer]
  rfl
set_option maxHeartbeats 16000000 in
theorem ends_ (hG : Tabs G) (h7 : 8 ≤ G.n) (htz : G.w0.cell? ⟨7, 15, none⟩ = some (.int .u8 4)) (o m : Int) (ho : -128 ≤ o ∧ o ≤ 127) (hm : 0 ≤ m ∧ m ≤ 18446744073709551615) : Det G Tryd.prog 3 [.o (.int .i8 o), .o (.int .u64 m)] [] (vB true) [] := by
  have z1 : (⟨(List.replicate (65535 + o).toNat (0 : UInt8)).toArray⟩ : ByteArray).size = (65535 + o).toNat := zer_size _
  have z3 : (⟨(List.replicate (65549 + o).toNat (0 : UInt8)).toArray⟩ : ByteArray).size = (65549 + o).toNat := zer_size _
  have z4 : (⟨(List.replicate (max 0 (60 + o)).toNat (0 : UInt8)).toArray⟩ : ByteArray).size = (max 0 (60 + o)).toNat := zer_size _
  have z2 := encE_size (t := 1) (f := m % 281474976710656) (k := 0) (d := (⟨(List.replicate (65535 + o).toNat (0 : UInt8)).toArray⟩ : ByteArray))
  have d1 : decE (⟨(List.replicate (65549 + o).toNat (0 : UInt8)).toArray⟩ : ByteArray) = _ := decE_zer _
  have d2 : decE (⟨(List.replicate (max 0 (60 + o)).toNat (0 : UInt8)).toArray⟩ : ByteArray) = _ := decE_zer _
  rcases (by omega : o < 0 ∨ o = 0 ∨ 0 < o) with ho1 | ho1 | ho1
  · have e1 : decE (⟨(List.replicate (65549 + o).toNat (0 : UInt8)).toArray⟩ : ByteArray) = 0 := by rw [d1, if_neg (by omega), if_neg (by omega)]
    have e2 : decE (⟨(List.replicate (max 0 (60 + o)).toNat (0 : UInt8)).toArray⟩ : ByteArray) = 10 := by rw [d2, if_pos (by omega)]
    have hb1 : decide (o ≤ 0) = true := by simp; omega
    have hb2 : decide (o ≥ 0) = false := by simp; omega
    by_cases hg : grp (m % 281474976710656) = true
    · have hg2 : m % 281474976710656 / 1099511627776 % 2 = 1 := by simpa [grp] using hg
      have hg4 : (m % 281474976710656).fdiv (2 ^ min (Int.toNat 40) IntKind.u64.bits) % 2 = 1 := by rw [shr_40]; exact hg2
      have hg3 : ((m % 281474976710656).fdiv (2 ^ min (Int.toNat 40) IntKind.u64.bits) % 2 == 1) = true := by simpa using hg4
      have e9 : decE (⟨(List.replicate (65549 + o).toNat (0 : UInt8)).toArray⟩ : ByteArray) = 0 := e1
      refine can_of_W known mix Tryd.func3 (by kernel_rfl) ok_law07_EtherEnds (Nat.le_of_ble_eq_true rfl) ?_
      repeat' ((conv => whnf); first
    | ((with_reducible refine Look.mk ?_); refine ⟨_, rfl, ?_⟩)
    | ((with_reducible refine LookN.zeros ?_))
    | ((with_reducible refine LookN.bytes ?_ ?_); (simp; done))
    | ((with_reducible refine BytesW.bytes ?_))
    | ((with_reducible refine Look.byte ?_ ?_); omega)
    | ((with_reducible refine Look.setb ?_ ?_ ?_); exact bv8_bd _; omega)
    | ((with_reducible refine LookN.setb ?_ ?_ ?_); exact bv8_bd _; omega)
    | ((with_reducible refine LookN.mk ?_); refine ⟨_, rfl, ?_⟩)
    | ((with_reducible refine Need.mk ?_ ?_); first | ((with_reducible refine needB ?_); kernel_rfl) | with_reducible rfl | omega | (with_reducible refine ⟨rfl, ?_⟩; focus omega) | (simp only [ByteArray.size_append, size_lit, List.size_toArray, List.length_cons, List.length_nil, Sp.ofB_size, ByteArray.size_extract, hdr7_size, enc7_size, zer_size, List.length_replicate]; omega) | exact rfl | trivial | exact Nat.le_of_ble_eq_true rfl | (exact ⟨rfl, by omega⟩) | (intro h; first | rfl | cases h) | (simp only [lenS_text, lenS_setN, lenS_zeros]; omega))
    | ((with_reducible refine BytesW.mk ?_); refine ⟨_, rfl, ?_⟩)
    | (with_reducible refine CallW.det (alive_det hG h7 htz) ?_)
    | (with_reducible refine CallW.det (enc_no1 _ hg (by omega) (by omega)) ?_)
    | (with_reducible refine CallW.det (dec_det _ (by omega)) ?_)
    | ((with_reducible refine WrT.same ?_ ?_); focus (repeat (first | exact trivial | ((conv => whnf); refine ⟨rfl, ?_⟩))))
    | (with_reducible refine WrT.all ?_)
    | ((with_reducible refine Arith.andu64_1 ?_ ?_); (rw [shr_40]; omega))
    | ((with_reducible refine Test.tmodEqT ?_ ?_ ?_); omega; focus first | omega | assumption)
    | ((with_reducible refine Test.tmodEqF ?_ ?_ ?_); omega; focus first | omega | assumption)
    | ((with_reducible refine Test.tmodNeT ?_ ?_ ?_); omega; focus first | omega | assumption)
    | ((with_reducible refine Test.tmodNeF ?_ ?_ ?_); omega; focus first | omega | assumption)
    | ((with_reducible refine Test.tmodEq ?_ (fun h => ?_) (fun h => ?_)); omega)
    | ((with_reducible refine Test.tmodNe ?_ (fun h => ?_) (fun h => ?_)); omega)
    | ((with_reducible refine Test.notT ?_ ?_); focus assumption)
    | ((with_reducible refine Test.notF ?_ ?_); focus assumption)
    | (with_reducible refine Test.notIe (fun h => ?_) (fun h => ?_))
    | (with_reducible refine Test.notD (fun h => ?_) (fun h => ?_))
    | ((with_reducible refine Test.empty (fun h => ?_) (fun h => ?_)))
    | (with_reducible refine Test.tt ?_)
    | (with_reducible refine Test.ff ?_)
    | ((with_reducible refine Test.dt ?_ ?_); omega)
    | ((with_reducible refine Test.df ?_ ?_); omega)
    | (with_reducible refine Test.d (fun h => ?_) (fun h => ?_))
    | ((with_reducible refine Test.ieT ?_ ?_); omega)
    | ((with_reducible refine Test.ieF ?_ ?_); omega)
    | ((with_reducible refine Test.neT ?_ ?_); omega)
    | ((with_reducible refine Test.neF ?_ ?_); omega)
    | (with_reducible refine Test.ie (fun h => ?_) (fun h => ?_))
    | (with_reducible refine Test.ne (fun h => ?_) (fun h => ?_))
    | ((with_reducible refine Test.b ?_ ?_); (focus first | assumption | (simp [negB]; done) | exact rfl | (simp only [negB, e1, e2, e9, hb1, hb2, hg3]; rfl)))
    | ((with_reducible refine Test.nb ?_ ?_); (focus first | assumption | (simp [negB]; done) | exact rfl | (simp only [negB, e1, e2, e9, hb1, hb2, hg3]; rfl)))
    | (with_reducible refine Test.notS (fun h => ?_) (fun h => ?_))
    | (with_reducible refine Test.mk (fun h => ?_) (fun h => ?_))
    | ((with_reducible refine Arith.andu64_1 ?_ ?_); omega)
    | ((with_reducible refine Arith.m48 ?_ ?_); omega)
    | ((with_reducible refine Arith.tdiv ?_ ?_); omega)
    | (with_reducible refine Arith.bv8 ?_)
    | (with_reducible refine Arith.bv16 ?_)
    | (with_reducible refine Arith.bv32 ?_)
    | (with_reducible refine Arith.bv64 ?_)
    | ((with_reducible refine Arith.i64 ?_ ?_); omega)
    | ((with_reducible refine Arith.u64 ?_ ?_); omega)
    | ((with_reducible refine Arith.u32 ?_ ?_); omega)
    | ((with_reducible refine Arith.u16 ?_ ?_); omega)
    | ((with_reducible refine Arith.u8 ?_ ?_); omega)
    | ((with_reducible refine Arith.i32 ?_ ?_); omega)
    | ((with_reducible refine Arith.i64 ?_ ?_); simp (discharger := omega) only [Int.tdiv_eq_ediv_of_nonneg, shr_u8_4, shl_u8_4, shr_u16_4, shl_u16_4, shr_u16_8, shl_u16_8, shr_u32_4, shl_u32_4, shr_u32_8, shl_u32_8, shr_u32_16, shl_u32_16, shr_u32_24, shl_u32_24, shr_u64_4, shl_u64_4, shr_u64_8, shl_u64_8, shr_u64_16, shl_u64_16, shr_u64_24, shl_u64_24, shr_u64_40, shl_u64_40, shr_i64_4, shl_i64_4, shr_i64_8, shl_i64_8, shr_i64_16, shl_i64_16, shr_i64_24, shl_i64_24, shr_i64_40, shl_i64_40]; omega)
    | ((with_reducible refine Arith.u64 ?_ ?_); simp (discharger := omega) only [Int.tdiv_eq_ediv_of_nonneg, shr_u8_4, shl_u8_4, shr_u16_4, shl_u16_4, shr_u16_8, shl_u16_8, shr_u32_4, shl_u32_4, shr_u32_8, shl_u32_8, shr_u32_16, shl_u32_16, shr_u32_24, shl_u32_24, shr_u64_4, shl_u64_4, shr_u64_8, shl_u64_8, shr_u64_16, shl_u64_16, shr_u64_24, shl_u64_24, shr_u64_40, shl_u64_40, shr_i64_4, shl_i64_4, shr_i64_8, shl_i64_8, shr_i64_16, shl_i64_16, shr_i64_24, shl_i64_24, shr_i64_40, shl_i64_40]; omega)
    | ((with_reducible refine Arith.u32 ?_ ?_); simp (discharger := omega) only [Int.tdiv_eq_ediv_of_nonneg, shr_u8_4, shl_u8_4, shr_u16_4, shl_u16_4, shr_u16_8, shl_u16_8, shr_u32_4, shl_u32_4, shr_u32_8, shl_u32_8, shr_u32_16, shl_u32_16, shr_u32_24, shl_u32_24, shr_u64_4, shl_u64_4, shr_u64_8, shl_u64_8, shr_u64_16, shl_u64_16, shr_u64_24, shl_u64_24, shr_u64_40, shl_u64_40, shr_i64_4, shl_i64_4, shr_i64_8, shl_i64_8, shr_i64_16, shl_i64_16, shr_i64_24, shl_i64_24, shr_i64_40, shl_i64_40]; omega)
    | ((with_reducible refine Arith.u16 ?_ ?_); simp (discharger := omega) only [Int.tdiv_eq_ediv_of_nonneg, shr_u8_4, shl_u8_4, shr_u16_4, shl_u16_4, shr_u16_8, shl_u16_8, shr_u32_4, shl_u32_4, shr_u32_8, shl_u32_8, shr_u32_16, shl_u32_16, shr_u32_24, shl_u32_24, shr_u64_4, shl_u64_4, shr_u64_8, shl_u64_8, shr_u64_16, shl_u64_16, shr_u64_24, shl_u64_24, shr_u64_40, shl_u64_40, shr_i64_4, shl_i64_4, shr_i64_8, shl_i64_8, shr_i64_16, shl_i64_16, shr_i64_24, shl_i64_24, shr_i64_40, shl_i64_40]; omega)
    | ((with_reducible refine Arith.u8 ?_ ?_); simp (discharger := omega) only [Int.tdiv_eq_ediv_of_nonneg, shr_u8_4, shl_u8_4, shr_u16_4, shl_u16_4, shr_u16_8, shl_u16_8, shr_u32_4, shl_u32_4, shr_u32_8, shl_u32_8, shr_u32_16, shl_u32_16, shr_u32_24, shl_u32_24, shr_u64_4, shl_u64_4, shr_u64_8, shl_u64_8, shr_u64_16, shl_u64_16, shr_u64_24, shl_u64_24, shr_u64_40, shl_u64_40, shr_i64_4, shl_i64_4, shr_i64_8, shl_i64_8, shr_i64_16, shl_i64_16, shr_i64_24, shl_i64_24, shr_i64_40, shl_i64_40]; omega)
    | (with_reducible refine Arith.mk ?_)
    | (with_reducible refine Ends.mk ?_))
      all_goals first | exact ⟨rfl, rfl⟩ | (exfalso; simp_all; done) | (exfalso; omega)
    · have hg2 : ¬ m % 281474976710656 / 1099511627776 % 2 = 1 := by simpa [grp] using hg
      have hg4 : ¬ (m % 281474976710656).fdiv (2 ^ min (Int.toNat 40) IntKind.u64.bits) % 2 = 1 := by rw [shr_40]; exact hg2
      have hg3 : ((m % 281474976710656).fdiv (2 ^ min (Int.toNat 40) IntKind.u64.bits) % 2 == 1) = false := by simpa using hg4
      have e9 : encE 1 (m % 281474976710656) (⟨(List.replicate (65535 + o).toNat (0 : UInt8)).toArray⟩ : ByteArray) = 0 := by unfold encE; rw [if_neg (by simp [hg]; omega), if_neg (by omega)]
      refine can_of_W known mix Tryd.func3 (by kernel_rfl) ok_law07_EtherEnds (Nat.le_of_ble_eq_true rfl) ?_
      repeat' ((conv => whnf); first
    | ((with_reducible refine Look.mk ?_); refine ⟨_, rfl, ?_⟩)
    | ((with_reducible refine LookN.zeros ?_))
    | ((with_reducible refine LookN.bytes ?_ ?_); (simp; done))
    | ((with_reducible refine BytesW.bytes ?_))
    | ((with_reducible refine Look.byte ?_ ?_); omega)
    | ((with_reducible refine Look.setb ?_ ?_ ?_); exact bv8_bd _; omega)
    | ((with_reducible refine LookN.setb ?_ ?_ ?_); exact bv8_bd _; omega)
    | ((with_reducible refine LookN.mk ?_); refine ⟨_, rfl, ?_⟩)
    | ((with_reducible refine Need.mk ?_ ?_); first | ((with_reducible refine needB ?_); kernel_rfl) | with_reducible rfl | omega | (with_reducible refine ⟨rfl, ?_⟩; focus omega) | (simp only [ByteArray.size_append, size_lit, List.size_toArray, List.length_cons, List.length_nil, Sp.ofB_size, ByteArray.size_extract, hdr7_size, enc7_size, zer_size, List.length_replicate]; omega) | exact rfl | trivial | exact Nat.le_of_ble_eq_true rfl | (exact ⟨rfl, by omega⟩) | (intro h; first | rfl | cases h) | (simp only [lenS_text, lenS_setN, lenS_zeros]; omega))
    | ((with_reducible refine BytesW.mk ?_); refine ⟨_, rfl, ?_⟩)
    | (with_reducible refine CallW.det (alive_det hG h7 htz) ?_)
    | (with_reducible refine CallW.det (enc_det _ _ _ _ (by omega) (by omega) (by omega) (by omega)) ?_)
    | (with_reducible refine CallW.det (dec_det _ (by omega)) ?_)
    | ((with_reducible refine WrT.same ?_ ?_); focus (repeat (first | exact trivial | ((conv => whnf); refine ⟨rfl, ?_⟩))))
    | (with_reducible refine WrT.all ?_)
    | ((with_reducible refine Arith.andu64_1 ?_ ?_); (rw [shr_40]; omega))
    | ((with_reducible refine Test.tmodEqT ?_ ?_ ?_); omega; focus first | omega | assumption)
    | ((with_reducible refine Test.tmodEqF ?_ ?_ ?_); omega; focus first | omega | assumption)
    | ((with_reducible refine Test.tmodNeT ?_ ?_ ?_); omega; focus first | omega | assumption)
    | ((with_reducible refine Test.tmodNeF ?_ ?_ ?_); omega; focus first | omega | assumption)
    | ((with_reducible refine Test.tmodEq ?_ (fun h => ?_) (fun h => ?_)); omega)
    | ((with_reducible refine Test.tmodNe ?_ (fun h => ?_) (fun h => ?_)); omega)
    | ((with_reducible refine Test.notT ?_ ?_); focus assumption)
    | ((with_reducible refine Test.notF ?_ ?_); focus assumption)
    | (with_reducible refine Test.notIe (fun h => ?_) (fun h => ?_))
    | (with_reducible refine Test.notD (fun h => ?_) (fun h => ?_))
    | ((with_reducible refine Test.empty (fun h => ?_) (fun h => ?_)))
    | (with_reducible refine Test.tt ?_)
    | (with_reducible refine Test.ff ?_)
    | ((with_reducible refine Test.dt ?_ ?_); omega)
    | ((with_reducible refine Test.df ?_ ?_); omega)
    | (with_reducible refine Test.d (fun h => ?_) (fun h => ?_))
    | ((with_reducible refine Test.ieT ?_ ?_); omega)
    | ((with_reducible refine Test.ieF ?_ ?_); omega)
    | ((with_reducible refine Test.neT ?_ ?_); omega)
    | ((with_reducible refine Test.neF ?_ ?_); omega)
    | (with_reducible refine Test.ie (fun h => ?_) (fun h => ?_))
    | (with_reducible refine Test.ne (fun h => ?_) (fun h => ?_))
    | ((with_reducible refine Test.b ?_ ?_); (focus first | assumption | (simp [negB]; done) | exact rfl | (simp only [negB, e1, e2, e9, hb1, hb2, hg3]; rfl)))
    | ((with_reducible refine Test.nb ?_ ?_); (focus first | assumption | (simp [negB]; done) | exact rfl | (simp only [negB, e1, e2, e9, hb1, hb2, hg3]; rfl)))
    | (with_reducible refine Test.notS (fun h => ?_) (fun h => ?_))
    | (with_reducible refine Test.mk (fun h => ?_) (fun h => ?_))
    | ((with_reducible refine Arith.andu64_1 ?_ ?_); omega)
    | ((with_reducible refine Arith.m48 ?_ ?_); omega)
    | ((with_reducible refine Arith.tdiv ?_ ?_); omega)
    | (with_reducible refine Arith.bv8 ?_)
    | (with_reducible refine Arith.bv16 ?_)
    | (with_reducible refine Arith.bv32 ?_)
    | (with_reducible refine Arith.bv64 ?_)
    | ((with_reducible refine Arith.i64 ?_ ?_); omega)
    | ((with_reducible refine Arith.u64 ?_ ?_); omega)
    | ((with_reducible refine Arith.u32 ?_ ?_); omega)
    | ((with_reducible refine Arith.u16 ?_ ?_); omega)
    | ((with_reducible refine Arith.u8 ?_ ?_); omega)
    | ((with_reducible refine Arith.i32 ?_ ?_); omega)
    | ((with_reducible refine Arith.i64 ?_ ?_); simp (discharger := omega) only [Int.tdiv_eq_ediv_of_nonneg, shr_u8_4, shl_u8_4, shr_u16_4, shl_u16_4, shr_u16_8, shl_u16_8, shr_u32_4, shl_u32_4, shr_u32_8, shl_u32_8, shr_u32_16, shl_u32_16, shr_u32_24, shl_u32_24, shr_u64_4, shl_u64_4, shr_u64_8, shl_u64_8, shr_u64_16, shl_u64_16, shr_u64_24, shl_u64_24, shr_u64_40, shl_u64_40, shr_i64_4, shl_i64_4, shr_i64_8, shl_i64_8, shr_i64_16, shl_i64_16, shr_i64_24, shl_i64_24, shr_i64_40, shl_i64_40]; omega)
    | ((with_reducible refine Arith.u64 ?_ ?_); simp (discharger := omega) only [Int.tdiv_eq_ediv_of_nonneg, shr_u8_4, shl_u8_4, shr_u16_4, shl_u16_4, shr_u16_8, shl_u16_8, shr_u32_4, shl_u32_4, shr_u32_8, shl_u32_8, shr_u32_16, shl_u32_16, shr_u32_24, shl_u32_24, shr_u64_4, shl_u64_4, shr_u64_8, shl_u64_8, shr_u64_16, shl_u64_16, shr_u64_24, shl_u64_24, shr_u64_40, shl_u64_40, shr_i64_4, shl_i64_4, shr_i64_8, shl_i64_8, shr_i64_16, shl_i64_16, shr_i64_24, shl_i64_24, shr_i64_40, shl_i64_40]; omega)
    | ((with_reducible refine Arith.u32 ?_ ?_); simp (discharger := omega) only [Int.tdiv_eq_ediv_of_nonneg, shr_u8_4, shl_u8_4, shr_u16_4, shl_u16_4, shr_u16_8, shl_u16_8, shr_u32_4, shl_u32_4, shr_u32_8, shl_u32_8, shr_u32_16, shl_u32_16, shr_u32_24, shl_u32_24, shr_u64_4, shl_u64_4, shr_u64_8, shl_u64_8, shr_u64_16, shl_u64_16, shr_u64_24, shl_u64_24, shr_u64_40, shl_u64_40, shr_i64_4, shl_i64_4, shr_i64_8, shl_i64_8, shr_i64_16, shl_i64_16, shr_i64_24, shl_i64_24, shr_i64_40, shl_i64_40]; omega)
    | ((with_reducible refine Arith.u16 ?_ ?_); simp (discharger := omega) only [Int.tdiv_eq_ediv_of_nonneg, shr_u8_4, shl_u8_4, shr_u16_4, shl_u16_4, shr_u16_8, shl_u16_8, shr_u32_4, shl_u32_4, shr_u32_8, shl_u32_8, shr_u32_16, shl_u32_16, shr_u32_24, shl_u32_24, shr_u64_4, shl_u64_4, shr_u64_8, shl_u64_8, shr_u64_16, shl_u64_16, shr_u64_24, shl_u64_24, shr_u64_40, shl_u64_40, shr_i64_4, shl_i64_4, shr_i64_8, shl_i64_8, shr_i64_16, shl_i64_16, shr_i64_24, shl_i64_24, shr_i64_40, shl_i64_40]; omega)
    | ((with_reducible refine Arith.u8 ?_ ?_); simp (discharger := omega) only [Int.tdiv_eq_ediv_of_nonneg, shr_u8_4, shl_u8_4, shr_u16_4, shl_u16_4, shr_u16_8, shl_u16_8, shr_u32_4, shl_u32_4, shr_u32_8, shl_u32_8, shr_u32_16, shl_u32_16, shr_u32_24, shl_u32_24, shr_u64_4, shl_u64_4, shr_u64_8, shl_u64_8, shr_u64_16, shl_u64_16, shr_u64_24, shl_u64_24, shr_u64_40, shl_u64_40, shr_i64_4, shl_i64_4, shr_i64_8, shl_i64_8, shr_i64_16, shl_i64_16, shr_i64_24, shl_i64_24, shr_i64_40, shl_i64_40]; omega)
    | (with_reducible refine Arith.mk ?_)
    | (with_reducible refine Ends.mk ?_))
      all_goals first | exact ⟨rfl, rfl⟩ | (exfalso; simp_all; done) | (exfalso; omega)
  · have e1 : decE (⟨(List.replicate (65549 + o).toNat (0 : UInt8)).toArray⟩ : ByteArray) = 0 := by rw [d1, if_neg (by omega), if_neg (by omega)]
    have e2 : decE (⟨(List.replicate (max 0 (60 + o)).toNat (0 : UInt8)).toArray⟩ : ByteArray) = 0 := by rw [d2, if_neg (by omega), if_neg (by omega)]
    have hb1 : decide (o ≤ 0) = true := by simp; omega
    have hb2 : decide (o ≥ 0) = true := by simp; omega
    by_cases hg : grp (m % 281474976710656) = true
    · have hg2 : m % 281474976710656 / 1099511627776 % 2 = 1 := by simpa [grp] using hg
      have hg4 : (m % 281474976710656).fdiv (2 ^ min (Int.toNat 40) IntKind.u64.bits) % 2 = 1 := by rw [shr_40]; exact hg2
      have hg3 : ((m % 281474976710656).fdiv (2 ^ min (Int.toNat 40) IntKind.u64.bits) % 2 == 1) = true := by simpa using hg4
      have e9 : decE (⟨(List.replicate (65549 + o).toNat (0 : UInt8)).toArray⟩ : ByteArray) = 0 := e1
      refine can_of_W known mix Tryd.func3 (by kernel_rfl) ok_law07_EtherEnds (Nat.le_of_ble_eq_true rfl) ?_
      repeat' ((conv => whnf); first
    | ((with_reducible refine Look.mk ?_); refine ⟨_, rfl, ?_⟩)
    | ((with_reducible refine LookN.zeros ?_))
    | ((with_reducible refine LookN.bytes ?_ ?_); (simp; done))
    | ((with_reducible refine BytesW.bytes ?_))
    | ((with_reducible refine Look.byte ?_ ?_); omega)
    | ((with_reducible refine Look.setb ?_ ?_ ?_); exact bv8_bd _; omega)
    | ((with_reducible refine LookN.setb ?_ ?_ ?_); exact bv8_bd _; omega)
    | ((with_reducible refine LookN.mk ?_); refine ⟨_, rfl, ?_⟩)
    | ((with_reducible refine Need.mk ?_ ?_); first | ((with_reducible refine needB ?_); kernel_rfl) | with_reducible rfl | omega | (with_reducible refine ⟨rfl, ?_⟩; focus omega) | (simp only [ByteArray.size_append, size_lit, List.size_toArray, List.length_cons, List.length_nil, Sp.ofB_size, ByteArray.size_extract, hdr7_size, enc7_size, zer_size, List.length_replicate]; omega) | exact rfl | trivial | exact Nat.le_of_ble_eq_true rfl | (exact ⟨rfl, by omega⟩) | (intro h; first | rfl | cases h) | (simp only [lenS_text, lenS_setN, lenS_zeros]; omega))
    | ((with_reducible refine BytesW.mk ?_); refine ⟨_, rfl, ?_⟩)
    | (with_reducible refine CallW.det (alive_det hG h7 htz) ?_)
    | (with_reducible refine CallW.det (enc_no1 _ hg (by omega) (by omega)) ?_)
    | (with_reducible refine CallW.det (dec_det _ (by omega)) ?_)
    | ((with_reducible refine WrT.same ?_ ?_); focus (repeat (first | exact trivial | ((conv => whnf); refine ⟨rfl, ?_⟩))))
    | (with_reducible refine WrT.all ?_)
    | ((with_reducible refine Arith.andu64_1 ?_ ?_); (rw [shr_40]; omega))
    | ((with_reducible refine Test.tmodEqT ?_ ?_ ?_); omega; focus first | omega | assumption)
    | ((with_reducible refine Test.tmodEqF ?_ ?_ ?_); omega; focus first | omega | assumption)
    | ((with_reducible refine Test.tmodNeT ?_ ?_ ?_); omega; focus first | omega | assumption)
    | ((with_reducible refine Test.tmodNeF ?_ ?_ ?_); omega; focus first | omega | assumption)
    | ((with_reducible refine Test.tmodEq ?_ (fun h => ?_) (fun h => ?_)); omega)
    | ((with_reducible refine Test.tmodNe ?_ (fun h => ?_) (fun h => ?_)); omega)
    | ((with_reducible refine Test.notT ?_ ?_); focus assumption)
    | ((with_reducible refine Test.notF ?_ ?_); focus assumption)
    | (with_reducible refine Test.notIe (fun h => ?_) (fun h => ?_))
    | (with_reducible refine Test.notD (fun h => ?_) (fun h => ?_))
    | ((with_reducible refine Test.empty (fun h => ?_) (fun h => ?_)))
    | (with_reducible refine Test.tt ?_)
    | (with_reducible refine Test.ff ?_)
    | ((with_reducible refine Test.dt ?_ ?_); omega)
    | ((with_reducible refine Test.df ?_ ?_); omega)
    | (with_reducible refine Test.d (fun h => ?_) (fun h => ?_))
    | ((with_reducible refine Test.ieT ?_ ?_); omega)
    | ((with_reducible refine Test.ieF ?_ ?_); omega)
    | ((with_reducible refine Test.neT ?_ ?_); omega)
    | ((with_reducible refine Test.neF ?_ ?_); omega)
    | (with_reducible refine Test.ie (fun h => ?_) (fun h => ?_))
    | (with_reducible refine Test.ne (fun h => ?_) (fun h => ?_))
    | ((with_reducible refine Test.b ?_ ?_); (focus first | assumption | (simp [negB]; done) | exact rfl | (simp only [negB, e1, e2, e9, hb1, hb2, hg3]; rfl)))
    | ((with_reducible refine Test.nb ?_ ?_); (focus first | assumption | (simp [negB]; done) | exact rfl | (simp only [negB, e1, e2, e9, hb1, hb2, hg3]; rfl)))
    | (with_reducible refine Test.notS (fun h => ?_) (fun h => ?_))
    | (with_reducible refine Test.mk (fun h => ?_) (fun h => ?_))
    | ((with_reducible refine Arith.andu64_1 ?_ ?_); omega)
    | ((with_reducible refine Arith.m48 ?_ ?_); omega)
    | ((with_reducible refine Arith.tdiv ?_ ?_); omega)
    | (with_reducible refine Arith.bv8 ?_)
    | (with_reducible refine Arith.bv16 ?_)
    | (with_reducible refine Arith.bv32 ?_)
    | (with_reducible refine Arith.bv64 ?_)
    | ((with_reducible refine Arith.i64 ?_ ?_); omega)
    | ((with_reducible refine Arith.u64 ?_ ?_); omega)
    | ((with_reducible refine Arith.u32 ?_ ?_); omega)
    | ((with_reducible refine Arith.u16 ?_ ?_); omega)
    | ((with_reducible refine Arith.u8 ?_ ?_); omega)
    | ((with_reducible refine Arith.i32 ?_ ?_); omega)
    | ((with_reducible refine Arith.i64 ?_ ?_); simp (discharger := omega) only [Int.tdiv_eq_ediv_of_nonneg, shr_u8_4, shl_u8_4, shr_u16_4, shl_u16_4, shr_u16_8, shl_u16_8, shr_u32_4, shl_u32_4, shr_u32_8, shl_u32_8, shr_u32_16, shl_u32_16, shr_u32_24, shl_u32_24, shr_u64_4, shl_u64_4, shr_u64_8, shl_u64_8, shr_u64_16, shl_u64_16, shr_u64_24, shl_u64_24, shr_u64_40, shl_u64_40, shr_i64_4, shl_i64_4, shr_i64_8, shl_i64_8, shr_i64_16, shl_i64_16, shr_i64_24, shl_i64_24, shr_i64_40, shl_i64_40]; omega)
    | ((with_reducible refine Arith.u64 ?_ ?_); simp (discharger := omega) only [Int.tdiv_eq_ediv_of_nonneg, shr_u8_4, shl_u8_4, shr_u16_4, shl_u16_4, shr_u16_8, shl_u16_8, shr_u32_4, shl_u32_4, shr_u32_8, shl_u32_8, shr_u32_16, shl_u32_16, shr_u32_24, shl_u32_24, shr_u64_4, shl_u64_4, shr_u64_8, shl_u64_8, shr_u64_16, shl_u64_16, shr_u64_24, shl_u64_24, shr_u64_40, shl_u64_40, shr_i64_4, shl_i64_4, shr_i64_8, shl_i64_8, shr_i64_16, shl_i64_16, shr_i64_24, shl_i64_24, shr_i64_40, shl_i64_40]; omega)
    | ((with_reducible refine Arith.u32 ?_ ?_); simp (discharger := omega) only [Int.tdiv_eq_ediv_of_nonneg, shr_u8_4, shl_u8_4, shr_u16_4, shl_u16_4, shr_u16_8, shl_u16_8, shr_u32_4, shl_u32_4, shr_u32_8, shl_u32_8, shr_u32_16, shl_u32_16, shr_u32_24, shl_u32_24, shr_u64_4, shl_u64_4, shr_u64_8, shl_u64_8, shr_u64_16, shl_u64_16, shr_u64_24, shl_u64_24, shr_u64_40, shl_u64_40, shr_i64_4, shl_i64_4, shr_i64_8, shl_i64_8, shr_i64_16, shl_i64_16, shr_i64_24, shl_i64_24, shr_i64_40, shl_i64_40]; omega)
    | ((with_reducible refine Arith.u16 ?_ ?_); simp (discharger := omega) only [Int.tdiv_eq_ediv_of_nonneg, shr_u8_4, shl_u8_4, shr_u16_4, shl_u16_4, shr_u16_8, shl_u16_8, shr_u32_4, shl_u32_4, shr_u32_8, shl_u32_8, shr_u32_16, shl_u32_16, shr_u32_24, shl_u32_24, shr_u64_4, shl_u64_4, shr_u64_8, shl_u64_8, shr_u64_16, shl_u64_16, shr_u64_24, shl_u64_24, shr_u64_40, shl_u64_40, shr_i64_4, shl_i64_4, shr_i64_8, shl_i64_8, shr_i64_16, shl_i64_16, shr_i64_24, shl_i64_24, shr_i64_40, shl_i64_40]; omega)
    | ((with_reducible refine Arith.u8 ?_ ?_); simp (discharger := omega) only [Int.tdiv_eq_ediv_of_nonneg, shr_u8_4, shl_u8_4, shr_u16_4, shl_u16_4, shr_u16_8, shl_u16_8, shr_u32_4, shl_u32_4, shr_u32_8, shl_u32_8, shr_u32_16, shl_u32_16, shr_u32_24, shl_u32_24, shr_u64_4, shl_u64_4, shr_u64_8, shl_u64_8, shr_u64_16, shl_u64_16, shr_u64_24, shl_u64_24, shr_u64_40, shl_u64_40, shr_i64_4, shl_i64_4, shr_i64_8, shl_i64_8, shr_i64_16, shl_i64_16, shr_i64_24, shl_i64_24, shr_i64_40, shl_i64_40]; omega)
    | (with_reducible refine Arith.mk ?_)
    | (with_reducible refine Ends.mk ?_))
      all_goals first | exact ⟨rfl, rfl⟩ | (exfalso; simp_all; done) | (exfalso; omega)
    · have hg2 : ¬ m % 281474976710656 / 1099511627776 % 2 = 1 := by simpa [grp] using hg
      have hg4 : ¬ (m % 281474976710656).fdiv (2 ^ min (Int.toNat 40) IntKind.u64.bits) % 2 = 1 := by rw [shr_40]; exact hg2
      have hg3 : ((m % 281474976710656).fdiv (2 ^ min (Int.toNat 40) IntKind.u64.bits) % 2 == 1) = false := by simpa using hg4
      have e9 : encE 1 (m % 281474976710656) (⟨(List.replicate (65535 + o).toNat (0 : UInt8)).toArray⟩ : ByteArray) = 0 := by unfold encE; rw [if_neg (by simp [hg]; omega), if_neg (by omega)]
      refine can_of_W known mix Tryd.func3 (by kernel_rfl) ok_law07_EtherEnds (Nat.le_of_ble_eq_true rfl) ?_
      repeat' ((conv => whnf); first
    | ((with_reducible refine Look.mk ?_); refine ⟨_, rfl, ?_⟩)
    | ((with_reducible refine LookN.zeros ?_))
    | ((with_reducible refine LookN.bytes ?_ ?_); (simp; done))
    | ((with_reducible refine BytesW.bytes ?_))
    | ((with_reducible refine Look.byte ?_ ?_); omega)
    | ((with_reducible refine Look.setb ?_ ?_ ?_); exact bv8_bd _; omega)
    | ((with_reducible refine LookN.setb ?_ ?_ ?_); exact bv8_bd _; omega)
    | ((with_reducible refine LookN.mk ?_); refine ⟨_, rfl, ?_⟩)
    | ((with_reducible refine Need.mk ?_ ?_); first | ((with_reducible refine needB ?_); kernel_rfl) | with_reducible rfl | omega | (with_reducible refine ⟨rfl, ?_⟩; focus omega) | (simp only [ByteArray.size_append, size_lit, List.size_toArray, List.length_cons, List.length_nil, Sp.ofB_size, ByteArray.size_extract, hdr7_size, enc7_size, zer_size, List.length_replicate]; omega) | exact rfl | trivial | exact Nat.le_of_ble_eq_true rfl | (exact ⟨rfl, by omega⟩) | (intro h; first | rfl | cases h) | (simp only [lenS_text, lenS_setN, lenS_zeros]; omega))
    | ((with_reducible refine BytesW.mk ?_); refine ⟨_, rfl, ?_⟩)
    | (with_reducible refine CallW.det (alive_det hG h7 htz) ?_)
    | (with_reducible refine CallW.det (enc_det _ _ _ _ (by omega) (by omega) (by omega) (by omega)) ?_)
    | (with_reducible refine CallW.det (dec_det _ (by omega)) ?_)
    | ((with_reducible refine WrT.same ?_ ?_); focus (repeat (first | exact trivial | ((conv => whnf); refine ⟨rfl, ?_⟩))))
    | (with_reducible refine WrT.all ?_)
    | ((with_reducible refine Arith.andu64_1 ?_ ?_); (rw [shr_40]; omega))
    | ((with_reducible refine Test.tmodEqT ?_ ?_ ?_); omega; focus first | omega | assumption)
    | ((with_reducible refine Test.tmodEqF ?_ ?_ ?_); omega; focus first | omega | assumption)
    | ((with_reducible refine Test.tmodNeT ?_ ?_ ?_); omega; focus first | omega | assumption)
    | ((with_reducible refine Test.tmodNeF ?_ ?_ ?_); omega; focus first | omega | assumption)
    | ((with_reducible refine Test.tmodEq ?_ (fun h => ?_) (fun h => ?_)); omega)
    | ((with_reducible refine Test.tmodNe ?_ (fun h => ?_) (fun h => ?_)); omega)
    | ((with_reducible refine Test.notT ?_ ?_); focus assumption)
    | ((with_reducible refine Test.notF ?_ ?_); focus assumption)
    | (with_reducible refine Test.notIe (fun h => ?_) (fun h => ?_))
    | (with_reducible refine Test.notD (fun h => ?_) (fun h => ?_))
    | ((with_reducible refine Test.empty (fun h => ?_) (fun h => ?_)))
    | (with_reducible refine Test.tt ?_)
    | (with_reducible refine Test.ff ?_)
    | ((with_reducible refine Test.dt ?_ ?_); omega)
    | ((with_reducible refine Test.df ?_ ?_); omega)
    | (with_reducible refine Test.d (fun h => ?_) (fun h => ?_))
    | ((with_reducible refine Test.ieT ?_ ?_); omega)
    | ((with_reducible refine Test.ieF ?_ ?_); omega)
    | ((with_reducible refine Test.neT ?_ ?_); omega)
    | ((with_reducible refine Test.neF ?_ ?_); omega)
    | (with_reducible refine Test.ie (fun h => ?_) (fun h => ?_))
    | (with_reducible refine Test.ne (fun h => ?_) (fun h => ?_))
    | ((with_reducible refine Test.b ?_ ?_); (focus first | assumption | (simp [negB]; done) | exact rfl | (simp only [negB, e1, e2, e9, hb1, hb2, hg3]; rfl)))
    | ((with_reducible refine Test.nb ?_ ?_); (focus first | assumption | (simp [negB]; done) | exact rfl | (simp only [negB, e1, e2, e9, hb1, hb2, hg3]; rfl)))
    | (with_reducible refine Test.notS (fun h => ?_) (fun h => ?_))
    | (with_reducible refine Test.mk (fun h => ?_) (fun h => ?_))
    | ((with_reducible refine Arith.andu64_1 ?_ ?_); omega)
    | ((with_reducible refine Arith.m48 ?_ ?_); omega)
    | ((with_reducible refine Arith.tdiv ?_ ?_); omega)
    | (with_reducible refine Arith.bv8 ?_)
    | (with_reducible refine Arith.bv16 ?_)
    | (with_reducible refine Arith.bv32 ?_)
    | (with_reducible refine Arith.bv64 ?_)
    | ((with_reducible refine Arith.i64 ?_ ?_); omega)
    | ((with_reducible refine Arith.u64 ?_ ?_); omega)
    | ((with_reducible refine Arith.u32 ?_ ?_); omega)
    | ((with_reducible refine Arith.u16 ?_ ?_); omega)
    | ((with_reducible refine Arith.u8 ?_ ?_); omega)
    | ((with_reducible refine Arith.i32 ?_ ?_); omega)
    | ((with_reducible refine Arith.i64 ?_ ?_); simp (discharger := omega) only [Int.tdiv_eq_ediv_of_nonneg, shr_u8_4, shl_u8_4, shr_u16_4, shl_u16_4, shr_u16_8, shl_u16_8, shr_u32_4, shl_u32_4, shr_u32_8, shl_u32_8, shr_u32_16, shl_u32_16, shr_u32_24, shl_u32_24, shr_u64_4, shl_u64_4, shr_u64_8, shl_u64_8, shr_u64_16, shl_u64_16, shr_u64_24, shl_u64_24, shr_u64_40, shl_u64_40, shr_i64_4, shl_i64_4, shr_i64_8, shl_i64_8, shr_i64_16, shl_i64_16, shr_i64_24, shl_i64_24, shr_i64_40, shl_i64_40]; omega)
    | ((with_reducible refine Arith.u64 ?_ ?_); simp (discharger := omega) only [Int.tdiv_eq_ediv_of_nonneg, shr_u8_4, shl_u8_4, shr_u16_4, shl_u16_4, shr_u16_8, shl_u16_8, shr_u32_4, shl_u32_4, shr_u32_8, shl_u32_8, shr_u32_16, shl_u32_16, shr_u32_24, shl_u32_24, shr_u64_4, shl_u64_4, shr_u64_8, shl_u64_8, shr_u64_16, shl_u64_16, shr_u64_24, shl_u64_24, shr_u64_40, shl_u64_40, shr_i64_4, shl_i64_4, shr_i64_8, shl_i64_8, shr_i64_16, shl_i64_16, shr_i64_24, shl_i64_24, shr_i64_40, shl_i64_40]; omega)
    | ((with_reducible refine Arith.u32 ?_ ?_); simp (discharger := omega) only [Int.tdiv_eq_ediv_of_nonneg, shr_u8_4, shl_u8_4, shr_u16_4, shl_u16_4, shr_u16_8, shl_u16_8, shr_u32_4, shl_u32_4, shr_u32_8, shl_u32_8, shr_u32_16, shl_u32_16, shr_u32_24, shl_u32_24, shr_u64_4, shl_u64_4, shr_u64_8, shl_u64_8, shr_u64_16, shl_u64_16, shr_u64_24, shl_u64_24, shr_u64_40, shl_u64_40, shr_i64_4, shl_i64_4, shr_i64_8, shl_i64_8, shr_i64_16, shl_i64_16, shr_i64_24, shl_i64_24, shr_i64_40, shl_i64_40]; omega)
    | ((with_reducible refine Arith.u16 ?_ ?_); simp (discharger := omega) only [Int.tdiv_eq_ediv_of_nonneg, shr_u8_4, shl_u8_4, shr_u16_4, shl_u16_4, shr_u16_8, shl_u16_8, shr_u32_4, shl_u32_4, shr_u32_8, shl_u32_8, shr_u32_16, shl_u32_16, shr_u32_24, shl_u32_24, shr_u64_4, shl_u64_4, shr_u64_8, shl_u64_8, shr_u64_16, shl_u64_16, shr_u64_24, shl_u64_24, shr_u64_40, shl_u64_40, shr_i64_4, shl_i64_4, shr_i64_8, shl_i64_8, shr_i64_16, shl_i64_16, shr_i64_24, shl_i64_24, shr_i64_40, shl_i64_40]; omega)
    | ((with_reducible refine Arith.u8 ?_ ?_); simp (discharger := omega) only [Int.tdiv_eq_ediv_of_nonneg, shr_u8_4, shl_u8_4, shr_u16_4, shl_u16_4, shr_u16_8, shl_u16_8, shr_u32_4, shl_u32_4, shr_u32_8, shl_u32_8, shr_u32_16, shl_u32_16, shr_u32_24, shl_u32_24, shr_u64_4, shl_u64_4, shr_u64_8, shl_u64_8, shr_u64_16, shl_u64_16, shr_u64_24, shl_u64_24, shr_u64_40, shl_u64_40, shr_i64_4, shl_i64_4, shr_i64_8, shl_i64_8, shr_i64_16, shl_i64_16, shr_i64_24, shl_i64_24, shr_i64_40, shl_i64_40]; omega)
    | (with_reducible refine Arith.mk ?_)
    | (with_reducible refine Ends.mk ?_))
      all_goals first | exact ⟨rfl, rfl⟩ | (exfalso; simp_all; done) | (exfalso; omega)
  · have e1 : decE (⟨(List.replicate (65549 + o).toNat (0 : UInt8)).toArray⟩ : ByteArray) = 4 := by rw [d1, if_neg (by omega), if_pos (by omega)]
    have e2 : decE (⟨(List.replicate (max 0 (60 + o)).toNat (0 : UInt8)).toArray⟩ : ByteArray) = 0 := by rw [d2, if_neg (by omega), if_neg (by omega)]
    have hb1 : decide (o ≤ 0) = false := by simp; omega
    have hb2 : decide (o ≥ 0) = true := by simp; omega
    by_cases hg : grp (m % 281474976710656) = true
    · have hg2 : m % 281474976710656 / 1099511627776 % 2 = 1 := by simpa [grp] using hg
      have hg4 : (m % 281474976710656).fdiv (2 ^ min (Int.toNat 40) IntKind.u64.bits) % 2 = 1 := by rw [shr_40]; exact hg2
      have hg3 : ((m % 281474976710656).fdiv (2 ^ min (Int.toNat 40) IntKind.u64.bits) % 2 == 1) = true := by simpa using hg4
      have e9 : decE (⟨(List.replicate (65549 + o).toNat (0 : UInt8)).toArray⟩ : ByteArray) = 4 := e1
      refine can_of_W known mix Tryd.func3 (by kernel_rfl) ok_law07_EtherEnds (Nat.le_of_ble_eq_true rfl) ?_
      repeat' ((conv => whnf); first
    | ((with_reducible refine Look.mk ?_); refine ⟨_, rfl, ?_⟩)
    | ((with_reducible refine LookN.zeros ?_))
    | ((with_reducible refine LookN.bytes ?_ ?_); (simp; done))
    | ((with_reducible refine BytesW.bytes ?_))
    | ((with_reducible refine Look.byte ?_ ?_); omega)
    | ((with_reducible refine Look.setb ?_ ?_ ?_); exact bv8_bd _; omega)
    | ((with_reducible refine LookN.setb ?_ ?_ ?_); exact bv8_bd _; omega)
    | ((with_reducible refine LookN.mk ?_); refine ⟨_, rfl, ?_⟩)
    | ((with_reducible refine Need.mk ?_ ?_); first | ((with_reducible refine needB ?_); kernel_rfl) | with_reducible rfl | omega | (with_reducible refine ⟨rfl, ?_⟩; focus omega) | (simp only [ByteArray.size_append, size_lit, List.size_toArray, List.length_cons, List.length_nil, Sp.ofB_size, ByteArray.size_extract, hdr7_size, enc7_size, zer_size, List.length_replicate]; omega) | exact rfl | trivial | exact Nat.le_of_ble_eq_true rfl | (exact ⟨rfl, by omega⟩) | (intro h; first | rfl | cases h) | (simp only [lenS_text, lenS_setN, lenS_zeros]; omega))
    | ((with_reducible refine BytesW.mk ?_); refine ⟨_, rfl, ?_⟩)
    | (with_reducible refine CallW.det (alive_det hG h7 htz) ?_)
    | (with_reducible refine CallW.det (enc_no1 _ hg (by omega) (by omega)) ?_)
    | (with_reducible refine CallW.det (dec_det _ (by omega)) ?_)
    | ((with_reducible refine WrT.same ?_ ?_); focus (repeat (first | exact trivial | ((conv => whnf); refine ⟨rfl, ?_⟩))))
    | (with_reducible refine WrT.all ?_)
    | ((with_reducible refine Arith.andu64_1 ?_ ?_); (rw [shr_40]; omega))
    | ((with_reducible refine Test.tmodEqT ?_ ?_ ?_); omega; focus first | omega | assumption)
    | ((with_reducible refine Test.tmodEqF ?_ ?_ ?_); omega; focus first | omega | assumption)
    | ((with_reducible refine Test.tmodNeT ?_ ?_ ?_); omega; focus first | omega | assumption)
    | ((with_reducible refine Test.tmodNeF ?_ ?_ ?_); omega; focus first | omega | assumption)
    | ((with_reducible refine Test.tmodEq ?_ (fun h => ?_) (fun h => ?_)); omega)
    | ((with_reducible refine Test.tmodNe ?_ (fun h => ?_) (fun h => ?_)); omega)
    | ((with_reducible refine Test.notT ?_ ?_); focus assumption)
    | ((with_reducible refine Test.notF ?_ ?_); focus assumption)
    | (with_reducible refine Test.notIe (fun h => ?_) (fun h => ?_))
    | (with_reducible refine Test.notD (fun h => ?_) (fun h => ?_))
    | ((with_reducible refine Test.empty (fun h => ?_) (fun h => ?_)))
    | (with_reducible refine Test.tt ?_)
    | (with_reducible refine Test.ff ?_)
    | ((with_reducible refine Test.dt ?_ ?_); omega)
    | ((with_reducible refine Test.df ?_ ?_); omega)
    | (with_reducible refine Test.d (fun h => ?_) (fun h => ?_))
    | ((with_reducible refine Test.ieT ?_ ?_); omega)
    | ((with_reducible refine Test.ieF ?_ ?_); omega)
    | ((with_reducible refine Test.neT ?_ ?_); omega)
    | ((with_reducible refine Test.neF ?_ ?_); omega)
    | (with_reducible refine Test.ie (fun h => ?_) (fun h => ?_))
    | (with_reducible refine Test.ne (fun h => ?_) (fun h => ?_))
    | ((with_reducible refine Test.b ?_ ?_); (focus first | assumption | (simp [negB]; done) | exact rfl | (simp only [negB, e1, e2, e9, hb1, hb2, hg3]; rfl)))
    | ((with_reducible refine Test.nb ?_ ?_); (focus first | assumption | (simp [negB]; done) | exact rfl | (simp only [negB, e1, e2, e9, hb1, hb2, hg3]; rfl)))
    | (with_reducible refine Test.notS (fun h => ?_) (fun h => ?_))
    | (with_reducible refine Test.mk (fun h => ?_) (fun h => ?_))
    | ((with_reducible refine Arith.andu64_1 ?_ ?_); omega)
    | ((with_reducible refine Arith.m48 ?_ ?_); omega)
    | ((with_reducible refine Arith.tdiv ?_ ?_); omega)
    | (with_reducible refine Arith.bv8 ?_)
    | (with_reducible refine Arith.bv16 ?_)
    | (with_reducible refine Arith.bv32 ?_)
    | (with_reducible refine Arith.bv64 ?_)
    | ((with_reducible refine Arith.i64 ?_ ?_); omega)
    | ((with_reducible refine Arith.u64 ?_ ?_); omega)
    | ((with_reducible refine Arith.u32 ?_ ?_); omega)
    | ((with_reducible refine Arith.u16 ?_ ?_); omega)
    | ((with_reducible refine Arith.u8 ?_ ?_); omega)
    | ((with_reducible refine Arith.i32 ?_ ?_); omega)
    | ((with_reducible refine Arith.i64 ?_ ?_); simp (discharger := omega) only [Int.tdiv_eq_ediv_of_nonneg, shr_u8_4, shl_u8_4, shr_u16_4, shl_u16_4, shr_u16_8, shl_u16_8, shr_u32_4, shl_u32_4, shr_u32_8, shl_u32_8, shr_u32_16, shl_u32_16, shr_u32_24, shl_u32_24, shr_u64_4, shl_u64_4, shr_u64_8, shl_u64_8, shr_u64_16, shl_u64_16, shr_u64_24, shl_u64_24, shr_u64_40, shl_u64_40, shr_i64_4, shl_i64_4, shr_i64_8, shl_i64_8, shr_i64_16, shl_i64_16, shr_i64_24, shl_i64_24, shr_i64_40, shl_i64_40]; omega)
    | ((with_reducible refine Arith.u64 ?_ ?_); simp (discharger := omega) only [Int.tdiv_eq_ediv_of_nonneg, shr_u8_4, shl_u8_4, shr_u16_4, shl_u16_4, shr_u16_8, shl_u16_8, shr_u32_4, shl_u32_4, shr_u32_8, shl_u32_8, shr_u32_16, shl_u32_16, shr_u32_24, shl_u32_24, shr_u64_4, shl_u64_4, shr_u64_8, shl_u64_8, shr_u64_16, shl_u64_16, shr_u64_24, shl_u64_24, shr_u64_40, shl_u64_40, shr_i64_4, shl_i64_4, shr_i64_8, shl_i64_8, shr_i64_16, shl_i64_16, shr_i64_24, shl_i64_24, shr_i64_40, shl_i64_40]; omega)
    | ((with_reducible refine Arith.u32 ?_ ?_); simp (discharger := omega) only [Int.tdiv_eq_ediv_of_nonneg, shr_u8_4, shl_u8_4, shr_u16_4, shl_u16_4, shr_u16_8, shl_u16_8, shr_u32_4, shl_u32_4, shr_u32_8, shl_u32_8, shr_u32_16, shl_u32_16, shr_u32_24, shl_u32_24, shr_u64_4, shl_u64_4, shr_u64_8, shl_u64_8, shr_u64_16, shl_u64_16, shr_u64_24, shl_u64_24, shr_u64_40, shl_u64_40, shr_i64_4, shl_i64_4, shr_i64_8, shl_i64_8, shr_i64_16, shl_i64_16, shr_i64_24, shl_i64_24, shr_i64_40, shl_i64_40]; omega)
    | ((with_reducible refine Arith.u16 ?_ ?_); simp (discharger := omega) only [Int.tdiv_eq_ediv_of_nonneg, shr_u8_4, shl_u8_4, shr_u16_4, shl_u16_4, shr_u16_8, shl_u16_8, shr_u32_4, shl_u32_4, shr_u32_8, shl_u32_8, shr_u32_16, shl_u32_16, shr_u32_24, shl_u32_24, shr_u64_4, shl_u64_4, shr_u64_8, shl_u64_8, shr_u64_16, shl_u64_16, shr_u64_24, shl_u64_24, shr_u64_40, shl_u64_40, shr_i64_4, shl_i64_4, shr_i64_8, shl_i64_8, shr_i64_16, shl_i64_16, shr_i64_24, shl_i64_24, shr_i64_40, shl_i64_40]; omega)
    | ((with_reducible refine Arith.u8 ?_ ?_); simp (discharger := omega) only [Int.tdiv_eq_ediv_of_nonneg, shr_u8_4, shl_u8_4, shr_u16_4, shl_u16_4, shr_u16_8, shl_u16_8, shr_u32_4, shl_u32_4, shr_u32_8, shl_u32_8, shr_u32_16, shl_u32_16, shr_u32_24, shl_u32_24, shr_u64_4, shl_u64_4, shr_u64_8, shl_u64_8, shr_u64_16, shl_u64_16, shr_u64_24, shl_u64_24, shr_u64_40, shl_u64_40, shr_i64_4, shl_i64_4, shr_i64_8, shl_i64_8, shr_i64_16, shl_i64_16, shr_i64_24, shl_i64_24, shr_i64_40, shl_i64_40]; omega)
    | (with_reducible refine Arith.mk ?_)
    | (with_reducible refine Ends.mk ?_))
      all_goals first | exact ⟨rfl, rfl⟩ | (exfalso; simp_all; done) | (exfalso; omega)
    · have hg2 : ¬ m % 281474976710656 / 1099511627776 % 2 = 1 := by simpa [grp] using hg
      have hg4 : ¬ (m % 281474976710656).fdiv (2 ^ min (Int.toNat 40) IntKind.u64.bits) % 2 = 1 := by rw [shr_40]; exact hg2
      have hg3 : ((m % 281474976710656).fdiv (2 ^ min (Int.toNat 40) IntKind.u64.bits) % 2 == 1) = false := by simpa using hg4
      have e9 : encE 1 (m % 281474976710656) (⟨(List.replicate (65535 + o).toNat (0 : UInt8)).toArray⟩ : ByteArray) = 4 := by unfold encE; rw [if_neg (by simp [hg]; omega), if_pos (by omega)]
      refine can_of_W known mix Tryd.func3 (by kernel_rfl) ok_law07_EtherEnds (Nat.le_of_ble_eq_true rfl) ?_
      repeat' ((conv => whnf); first
    | ((with_reducible refine Look.mk ?_); refine ⟨_, rfl, ?_⟩)
    | ((with_reducible refine LookN.zeros ?_))
    | ((with_reducible refine LookN.bytes ?_ ?_); (simp; done))
    | ((with_reducible refine BytesW.bytes ?_))
    | ((with_reducible refine Look.byte ?_ ?_); omega)
    | ((with_reducible refine Look.setb ?_ ?_ ?_); exact bv8_bd _; omega)
    | ((with_reducible refine LookN.setb ?_ ?_ ?_); exact bv8_bd _; omega)
    | ((with_reducible refine LookN.mk ?_); refine ⟨_, rfl, ?_⟩)
    | ((with_reducible refine Need.mk ?_ ?_); first | ((with_reducible refine needB ?_); kernel_rfl) | with_reducible rfl | omega | (with_reducible refine ⟨rfl, ?_⟩; focus omega) | (simp only [ByteArray.size_append, size_lit, List.size_toArray, List.length_cons, List.length_nil, Sp.ofB_size, ByteArray.size_extract, hdr7_size, enc7_size, zer_size, List.length_replicate]; omega) | exact rfl | trivial | exact Nat.le_of_ble_eq_true rfl | (exact ⟨rfl, by omega⟩) | (intro h; first | rfl | cases h) | (simp only [lenS_text, lenS_setN, lenS_zeros]; omega))
    | ((with_reducible refine BytesW.mk ?_); refine ⟨_, rfl, ?_⟩)
    | (with_reducible refine CallW.det (alive_det hG h7 htz) ?_)
    | (with_reducible refine CallW.det (enc_det _ _ _ _ (by omega) (by omega) (by omega) (by omega)) ?_)
    | (with_reducible refine CallW.det (dec_det _ (by omega)) ?_)
    | ((with_reducible refine WrT.same ?_ ?_); focus (repeat (first | exact trivial | ((conv => whnf); refine ⟨rfl, ?_⟩))))
    | (with_reducible refine WrT.all ?_)
    | ((with_reducible refine Arith.andu64_1 ?_ ?_); (rw [shr_40]; omega))
    | ((with_reducible refine Test.tmodEqT ?_ ?_ ?_); omega; focus first | omega | assumption)
    | ((with_reducible refine Test.tmodEqF ?_ ?_ ?_); omega; focus first | omega | assumption)
    | ((with_reducible refine Test.tmodNeT ?_ ?_ ?_); omega; focus first | omega | assumption)
    | ((with_reducible refine Test.tmodNeF ?_ ?_ ?_); omega; focus first | omega | assumption)
    | ((with_reducible refine Test.tmodEq ?_ (fun h => ?_) (fun h => ?_)); omega)
    | ((with_reducible refine Test.tmodNe ?_ (fun h => ?_) (fun h => ?_)); omega)
    | ((with_reducible refine Test.notT ?_ ?_); focus assumption)
    | ((with_reducible refine Test.notF ?_ ?_); focus assumption)
    | (with_reducible refine Test.notIe (fun h => ?_) (fun h => ?_))
    | (with_reducible refine Test.notD (fun h => ?_) (fun h => ?_))
    | ((with_reducible refine Test.empty (fun h => ?_) (fun h => ?_)))
    | (with_reducible refine Test.tt ?_)
    | (with_reducible refine Test.ff ?_)
    | ((with_reducible refine Test.dt ?_ ?_); omega)
    | ((with_reducible refine Test.df ?_ ?_); omega)
    | (with_reducible refine Test.d (fun h => ?_) (fun h => ?_))
    | ((with_reducible refine Test.ieT ?_ ?_); omega)
    | ((with_reducible refine Test.ieF ?_ ?_); omega)
    | ((with_reducible refine Test.neT ?_ ?_); omega)
    | ((with_reducible refine Test.neF ?_ ?_); omega)
    | (with_reducible refine Test.ie (fun h => ?_) (fun h => ?_))
    | (with_reducible refine Test.ne (fun h => ?_) (fun h => ?_))
    | ((with_reducible refine Test.b ?_ ?_); (focus first | assumption | (simp [negB]; done) | exact rfl | (simp only [negB, e1, e2, e9, hb1, hb2, hg3]; rfl)))
    | ((with_reducible refine Test.nb ?_ ?_); (focus first | assumption | (simp [negB]; done) | exact rfl | (simp only [negB, e1, e2, e9, hb1, hb2, hg3]; rfl)))
    | (with_reducible refine Test.notS (fun h => ?_) (fun h => ?_))
    | (with_reducible refine Test.mk (fun h => ?_) (fun h => ?_))
    | ((with_reducible refine Arith.andu64_1 ?_ ?_); omega)
    | ((with_reducible refine Arith.m48 ?_ ?_); omega)
    | ((with_reducible refine Arith.tdiv ?_ ?_); omega)
    | (with_reducible refine Arith.bv8 ?_)
    | (with_reducible refine Arith.bv16 ?_)
    | (with_reducible refine Arith.bv32 ?_)
    | (with_reducible refine Arith.bv64 ?_)
    | ((with_reducible refine Arith.i64 ?_ ?_); omega)
    | ((with_reducible refine Arith.u64 ?_ ?_); omega)
    | ((with_reducible refine Arith.u32 ?_ ?_); omega)
    | ((with_reducible refine Arith.u16 ?_ ?_); omega)
    | ((with_reducible refine Arith.u8 ?_ ?_); omega)
    | ((with_reducible refine Arith.i32 ?_ ?_); omega)
    | ((with_reducible refine Arith.i64 ?_ ?_); simp (discharger := omega) only [Int.tdiv_eq_ediv_of_nonneg, shr_u8_4, shl_u8_4, shr_u16_4, shl_u16_4, shr_u16_8, shl_u16_8, shr_u32_4, shl_u32_4, shr_u32_8, shl_u32_8, shr_u32_16, shl_u32_16, shr_u32_24, shl_u32_24, shr_u64_4, shl_u64_4, shr_u64_8, shl_u64_8, shr_u64_16, shl_u64_16, shr_u64_24, shl_u64_24, shr_u64_40, shl_u64_40, shr_i64_4, shl_i64_4, shr_i64_8, shl_i64_8, shr_i64_16, shl_i64_16, shr_i64_24, shl_i64_24, shr_i64_40, shl_i64_40]; omega)
    | ((with_reducible refine Arith.u64 ?_ ?_); simp (discharger := omega) only [Int.tdiv_eq_ediv_of_nonneg, shr_u8_4, shl_u8_4, shr_u16_4, shl_u16_4, shr_u16_8, shl_u16_8, shr_u32_4, shl_u32_4, shr_u32_8, shl_u32_8, shr_u32_16, shl_u32_16, shr_u32_24, shl_u32_24, shr_u64_4, shl_u64_4, shr_u64_8, shl_u64_8, shr_u64_16, shl_u64_16, shr_u64_24, shl_u64_24, shr_u64_40, shl_u64_40, shr_i64_4, shl_i64_4, shr_i64_8, shl_i64_8, shr_i64_16, shl_i64_16, shr_i64_24, shl_i64_24, shr_i64_40, shl_i64_40]; omega)
    | ((with_reducible refine Arith.u32 ?_ ?_); simp (discharger := omega) only [Int.tdiv_eq_ediv_of_nonneg, shr_u8_4, shl_u8_4, shr_u16_4, shl_u16_4, shr_u16_8, shl_u16_8, shr_u32_4, shl_u32_4, shr_u32_8, shl_u32_8, shr_u32_16, shl_u32_16, shr_u32_24, shl_u32_24, shr_u64_4, shl_u64_4, shr_u64_8, shl_u64_8, shr_u64_16, shl_u64_16, shr_u64_24, shl_u64_24, shr_u64_40, shl_u64_40, shr_i64_4, shl_i64_4, shr_i64_8, shl_i64_8, shr_i64_16, shl_i64_16, shr_i64_24, shl_i64_24, shr_i64_40, shl_i64_40]; omega)
    | ((with_reducible refine Arith.u16 ?_ ?_); simp (discharger := omega) only [Int.tdiv_eq_ediv_of_nonneg, shr_u8_4, shl_u8_4, shr_u16_4, shl_u16_4, shr_u16_8, shl_u16_8, shr_u32_4, shl_u32_4, shr_u32_8, shl_u32_8, shr_u32_16, shl_u32_16, shr_u32_24, shl_u32_24, shr_u64_4, shl_u64_4, shr_u64_8, shl_u64_8, shr_u64_16, shl_u64_16, shr_u64_24, shl_u64_24, shr_u64_40, shl_u64_40, shr_i64_4, shl_i64_4, shr_i64_8, shl_i64_8, shr_i64_16, shl_i64_16, shr_i64_24, shl_i64_24, shr_i64_40, shl_i64_40]; omega)
    | ((with_reducible refine Arith.u8 ?_ ?_); simp (discharger := omega) only [Int.tdiv_eq_ediv_of_nonneg, shr_u8_4, shl_u8_4, shr_u16_4, shl_u16_4, shr_u16_8, shl_u16_8, shr_u32_4, shl_u32_4, shr_u32_8, shl_u32_8, shr_u32_16, shl_u32_16, shr_u32_24, shl_u32_24, shr_u64_4, shl_u64_4, shr_u64_8, shl_u64_8, shr_u64_16, shl_u64_16, shr_u64_24, shl_u64_24, shr_u64_40, shl_u64_40, shr_i64_4, shl_i64_4, shr_i64_8, shl_i64_8, shr_i64_16, shl_i64_16, shr_i64_24, shl_i64_24, shr_i64_40, shl_i64_40]; omega)
    | (with_reducible refine Arith.mk ?_)
    | (with_reducible refine Ends.mk ?_))
      all_goals first | exact ⟨rfl, rfl⟩ | (exfalso; simp_all; done) | (exfalso; omega)

end G4
end Go.Proofs.YtnikpanebkknfaaDoor.VM
