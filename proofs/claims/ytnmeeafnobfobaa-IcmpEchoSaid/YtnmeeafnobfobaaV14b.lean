/- law 14 by the evaluator: errors, quotes, and alive. -/
import Derived.Test.YtnmeeafnobfobaaV14a
import Derived.Test.YtnmeeafnobfobaaV10c
namespace Go.Proofs.Ytnmeeafnobfobaa.VM
namespace G2
open Go.RowKit
set_option linter.unusedVariables false
set_option linter.unusedSimpArgs false
set_option maxRecDepth 100000
theorem dec10_form (s : ByteArray) : ∃ tos id hold more at_ ttl proto fr to o, dec10 s = hdr tos id hold more at_ ttl proto fr to o := by
  unfold dec10
  split <;> exact ⟨_, _, _, _, _, _, _, _, _, _, rfl⟩
/-- Is an error told? -/
def errP (kind e at_ fr to proto : Int) (dat : ByteArray) : Prop := (kind = 3 ∨ kind = 11 ∨ kind = 12) ∧ e = 0 ∧ ¬ at_ > 0 ∧ kindA fr = 0 ∧ ¬ kindA to = 3 ∧ ¬ kindA to = 5 ∧ (¬ proto = 1 ∨ (0 < (dat.size : Int) ∧ (bAt dat (Int.toNat 0) = 8 ∨ bAt dat (Int.toNat 0) = 0)))
instance (kind e at_ fr to proto : Int) (dat : ByteArray) : Decidable (errP kind e at_ fr to proto dat) := by unfold errP; infer_instance
def errD (p o dat : ByteArray) : ByteArray := p.extract (Int.toNat 0) (20 + (o.size : Int)).toNat ++ dat.extract (Int.toNat 0) (min (dat.size : Int) 8).toNat
def err14 (kind code w e at_ fr to proto : Int) (p o dat : ByteArray) : List SV := if errP kind e at_ fr to proto dat then msg kind code w (errD p o dat) else msg 0 0 0 ⟨#[]⟩
theorem err_no (kind code w e at_ fr to proto : Int) (p o dat : ByteArray) (h : ¬ errP kind e at_ fr to proto dat) : V.t [.a (msg 0 0 0 ⟨#[]⟩), .o (.bool false)] = .t [.a (err14 kind code w e at_ fr to proto p o dat), .o (.bool (decide (errP kind e at_ fr to proto dat)))] := by unfold err14; rw [if_neg h, decide_eq_false h]
theorem err_yes (kind code w e at_ fr to proto : Int) (p o dat : ByteArray) (h : errP kind e at_ fr to proto dat) : V.t [.a (msg kind code w (errD p o dat)), .o (.bool true)] = .t [.a (err14 kind code w e at_ fr to proto p o dat), .o (.bool (decide (errP kind e at_ fr to proto dat)))] := by unfold err14; rw [if_pos h, decide_eq_true h]
set_option maxHeartbeats 8000000 in
theorem error_det (kind code w : Int) (p : ByteArray) (hk : 0 ≤ kind ∧ kind ≤ 255) (hp : p.size ≤ 1000000) (tos id : Int) (hold more : Bool) (at_ ttl proto fr to : Int) (o : ByteArray) (dat : ByteArray) (e : Int) (hfr : 0 ≤ fr ∧ fr ≤ 4294967295) (hto : 0 ≤ to ∧ to ≤ 4294967295) (ho : e = 0 → (20 : Int) + o.size ≤ p.size) (ho2 : o.size ≤ 1000000) (hdat : dat.size ≤ 1000000) (D : Det Try.prog 29 [.o (.str p)] [] (.t [.a (hdr tos id hold more at_ ttl proto fr to o), .o (.str dat), .o (.int .i64 e)]) []) : Det Try.prog 21 [.o (.int .u8 kind), .o (.int .u8 code), .o (.int .u32 w), .o (.str p)] [] (.t [.a (err14 kind code w e at_ fr to proto p o dat), .o (.bool (decide (errP kind e at_ fr to proto dat)))]) [] := by
  refine can_of_W known mix Try.func21 (by kernel_rfl) ok_icmp_Error (Nat.le_of_ble_eq_true rfl) ?_
  repeat' ((conv => whnf); first
    | ((with_reducible refine Look.mk ?_); refine ⟨_, rfl, ?_⟩)
    | ((with_reducible refine LookN.zeros ?_))
    | ((with_reducible refine LookN.bytes ?_ ?_); (simp; done))
    | ((with_reducible refine BytesW.bytes ?_))
    | ((with_reducible refine Look.byte ?_ ?_); omega)
    | ((with_reducible refine Look.setb ?_ ?_ ?_); exact bv8_bd _; omega)
    | ((with_reducible refine LookN.setb ?_ ?_ ?_); exact bv8_bd _; omega)
    | ((with_reducible refine LookN.mk ?_); refine ⟨_, rfl, ?_⟩)
    | ((with_reducible refine Need.mk ?_ ?_); first | ((with_reducible refine needB ?_); kernel_rfl) | exact rfl | trivial | omega | exact Nat.le_of_ble_eq_true rfl | (exact ⟨rfl, by omega⟩) | (intro h; first | rfl | cases h) | (simp only [lenS_text, lenS_setN, lenS_zeros]; omega) | (simp only [ByteArray.size_append, size_lit, List.size_toArray, List.length_cons, List.length_nil, Sp.ofB_size, ByteArray.size_extract]; omega))
    | ((with_reducible refine BytesW.mk ?_); refine ⟨_, rfl, ?_⟩)
    | (with_reducible refine CallW.det (D) ?_)
    | (with_reducible refine CallW.det (bad_det _ hk) ?_)
    | (with_reducible refine CallW.det (kind_det _ (by omega)) ?_)
    | (with_reducible refine LoopW.unroll (fun X hX => ?_))
    | (refine hX _ _ ?_)
    | (with_reducible refine CallW.can (can_of_W known mix Try.func52 (by kernel_rfl) ok_icmp_Error_1 (Nat.le_of_ble_eq_true rfl) ?_) (fun _ _ h => h))
    | (with_reducible refine CallW.can (can_of_W known mix Try.func54 (by kernel_rfl) ok_icmp_Error_2 (Nat.le_of_ble_eq_true rfl) ?_) (fun _ _ h => h))
    | (with_reducible refine CallW.can (can_of_W known mix Try.func56 (by kernel_rfl) ok_icmp_Error_3 (Nat.le_of_ble_eq_true rfl) ?_) (fun _ _ h => h))
    | (with_reducible refine CallW.can (can_of_W known mix Try.func57 (by kernel_rfl) ok_icmp_Error_4 (Nat.le_of_ble_eq_true rfl) ?_) (fun _ _ h => h))
    | ((with_reducible refine Test.tmodEqT ?_ ?_ ?_); omega; focus omega)
    | ((with_reducible refine Test.tmodEqF ?_ ?_ ?_); omega; focus omega)
    | ((with_reducible refine Test.tmodNeT ?_ ?_ ?_); omega; focus omega)
    | ((with_reducible refine Test.tmodNeF ?_ ?_ ?_); omega; focus omega)
    | ((with_reducible refine Test.tmodEq ?_ (fun h => ?_) (fun h => ?_)); omega)
    | ((with_reducible refine Test.tmodNe ?_ (fun h => ?_) (fun h => ?_)); omega)
    | (with_reducible refine Test.shru8_4 (fun h => ?_) (fun h => ?_))
    | (with_reducible refine Test.shreu8_4 (fun h => ?_) (fun h => ?_))
    | (with_reducible refine Test.shreu32_24 (fun h => ?_) (fun h => ?_))
    | (with_reducible refine Test.shrgeu32_24 (fun h => ?_) (fun h => ?_))
    | ((with_reducible refine Test.notT ?_ ?_); focus assumption)
    | ((with_reducible refine Test.notF ?_ ?_); focus assumption)
    | (with_reducible refine Test.notIe (fun h => ?_) (fun h => ?_))
    | (with_reducible refine Test.notD (fun h => ?_) (fun h => ?_))
    | ((with_reducible refine Test.empty (fun h => ?_) (fun h => ?_)))
    | (with_reducible refine Test.tt ?_)
    | (with_reducible refine Test.ff ?_)
    | ((with_reducible refine Test.dt ?_ ?_); omega)
    | ((with_reducible refine Test.df ?_ ?_); omega)
    | (with_reducible refine Test.d (fun h => ?_) (fun h => ?_))
    | ((with_reducible refine Test.ieT ?_ ?_); omega)
    | ((with_reducible refine Test.ieF ?_ ?_); omega)
    | ((with_reducible refine Test.neT ?_ ?_); omega)
    | ((with_reducible refine Test.neF ?_ ?_); omega)
    | (with_reducible refine Test.ie (fun h => ?_) (fun h => ?_))
    | (with_reducible refine Test.ne (fun h => ?_) (fun h => ?_))
    | ((with_reducible refine Test.b ?_ ?_); (focus first | assumption | (simp [negB]; done) | exact rfl))
    | ((with_reducible refine Test.nb ?_ ?_); (focus first | assumption | (simp [negB]; done) | exact rfl))
    | (with_reducible refine Test.notS (fun h => ?_) (fun h => ?_))
    | (with_reducible refine Test.mk (fun h => ?_) (fun h => ?_))
    | (with_reducible refine Arith.nsu32_24 ?_)
    | (with_reducible refine Arith.nsu32_16 ?_)
    | (with_reducible refine Arith.nsu32_8 ?_)
    | ((with_reducible refine Arith.andu8_15 ?_ ?_); omega)
    | ((with_reducible refine Arith.andu16_8191 ?_ ?_); omega)
    | ((with_reducible refine Arith.bitu16_16384 ?_ ?_); omega)
    | ((with_reducible refine Arith.bitu16_8192 ?_ ?_); omega)
    | ((with_reducible refine Arith.andu64_8191 ?_ ?_); omega)
    | ((with_reducible refine Arith.bitu64_16384 ?_ ?_); omega)
    | ((with_reducible refine Arith.bitu64_8192 ?_ ?_); omega)
    | ((with_reducible refine Arith.tdiv ?_ ?_); omega)
    | (with_reducible refine Arith.bv8 ?_)
    | (with_reducible refine Arith.bv16 ?_)
    | (with_reducible refine Arith.bv32 ?_)
    | (with_reducible refine Arith.bv64 ?_)
    | ((with_reducible refine Arith.i64 ?_ ?_); omega)
    | ((with_reducible refine Arith.u64 ?_ ?_); omega)
    | ((with_reducible refine Arith.u32 ?_ ?_); omega)
    | ((with_reducible refine Arith.u16 ?_ ?_); omega)
    | ((with_reducible refine Arith.u8 ?_ ?_); omega)
    | ((with_reducible refine Arith.i32 ?_ ?_); omega)
    | ((with_reducible refine Arith.i64 ?_ ?_); simp (discharger := omega) only [Int.tdiv_eq_ediv_of_nonneg, shr_u8_4, shl_u8_4, shr_u16_4, shl_u16_4, shr_u16_8, shl_u16_8, shr_u32_4, shl_u32_4, shr_u32_8, shl_u32_8, shr_u32_16, shl_u32_16, shr_u32_24, shl_u32_24, shr_u64_4, shl_u64_4, shr_u64_8, shl_u64_8, shr_u64_16, shl_u64_16, shr_u64_24, shl_u64_24, shr_u64_40, shl_u64_40, shr_i64_4, shl_i64_4, shr_i64_8, shl_i64_8, shr_i64_16, shl_i64_16, shr_i64_24, shl_i64_24, shr_i64_40, shl_i64_40]; omega)
    | ((with_reducible refine Arith.u64 ?_ ?_); simp (discharger := omega) only [Int.tdiv_eq_ediv_of_nonneg, shr_u8_4, shl_u8_4, shr_u16_4, shl_u16_4, shr_u16_8, shl_u16_8, shr_u32_4, shl_u32_4, shr_u32_8, shl_u32_8, shr_u32_16, shl_u32_16, shr_u32_24, shl_u32_24, shr_u64_4, shl_u64_4, shr_u64_8, shl_u64_8, shr_u64_16, shl_u64_16, shr_u64_24, shl_u64_24, shr_u64_40, shl_u64_40, shr_i64_4, shl_i64_4, shr_i64_8, shl_i64_8, shr_i64_16, shl_i64_16, shr_i64_24, shl_i64_24, shr_i64_40, shl_i64_40]; omega)
    | ((with_reducible refine Arith.u32 ?_ ?_); simp (discharger := omega) only [Int.tdiv_eq_ediv_of_nonneg, shr_u8_4, shl_u8_4, shr_u16_4, shl_u16_4, shr_u16_8, shl_u16_8, shr_u32_4, shl_u32_4, shr_u32_8, shl_u32_8, shr_u32_16, shl_u32_16, shr_u32_24, shl_u32_24, shr_u64_4, shl_u64_4, shr_u64_8, shl_u64_8, shr_u64_16, shl_u64_16, shr_u64_24, shl_u64_24, shr_u64_40, shl_u64_40, shr_i64_4, shl_i64_4, shr_i64_8, shl_i64_8, shr_i64_16, shl_i64_16, shr_i64_24, shl_i64_24, shr_i64_40, shl_i64_40]; omega)
    | ((with_reducible refine Arith.u16 ?_ ?_); simp (discharger := omega) only [Int.tdiv_eq_ediv_of_nonneg, shr_u8_4, shl_u8_4, shr_u16_4, shl_u16_4, shr_u16_8, shl_u16_8, shr_u32_4, shl_u32_4, shr_u32_8, shl_u32_8, shr_u32_16, shl_u32_16, shr_u32_24, shl_u32_24, shr_u64_4, shl_u64_4, shr_u64_8, shl_u64_8, shr_u64_16, shl_u64_16, shr_u64_24, shl_u64_24, shr_u64_40, shl_u64_40, shr_i64_4, shl_i64_4, shr_i64_8, shl_i64_8, shr_i64_16, shl_i64_16, shr_i64_24, shl_i64_24, shr_i64_40, shl_i64_40]; omega)
    | ((with_reducible refine Arith.u8 ?_ ?_); simp (discharger := omega) only [Int.tdiv_eq_ediv_of_nonneg, shr_u8_4, shl_u8_4, shr_u16_4, shl_u16_4, shr_u16_8, shl_u16_8, shr_u32_4, shl_u32_4, shr_u32_8, shl_u32_8, shr_u32_16, shl_u32_16, shr_u32_24, shl_u32_24, shr_u64_4, shl_u64_4, shr_u64_8, shl_u64_8, shr_u64_16, shl_u64_16, shr_u64_24, shl_u64_24, shr_u64_40, shl_u64_40, shr_i64_4, shl_i64_4, shr_i64_8, shl_i64_8, shr_i64_16, shl_i64_16, shr_i64_24, shl_i64_24, shr_i64_40, shl_i64_40]; omega)
    | (with_reducible refine Arith.mk ?_)
    | (with_reducible refine Ends.mk ?_))
  all_goals refine ⟨?_, rfl⟩
  all_goals first
    | exact err_no _ _ _ _ _ _ _ _ _ _ _ (by unfold errP; omega)
    | exact err_yes _ _ _ _ _ _ _ _ _ _ _ (by unfold errP; omega)
set_option maxHeartbeats 8000000 in
theorem rerror_det (kind code w : Int) (p : ByteArray) (hk : 0 ≤ kind ∧ kind ≤ 255) (hp : p.size ≤ 1000000) (tos id : Int) (hold more : Bool) (at_ ttl proto fr to : Int) (o : ByteArray) (dat : ByteArray) (e : Int) (hfr : 0 ≤ fr ∧ fr ≤ 4294967295) (hto : 0 ≤ to ∧ to ≤ 4294967295) (ho : e = 0 → (20 : Int) + o.size ≤ p.size) (ho2 : o.size ≤ 1000000) (hdat : dat.size ≤ 1000000) (D : Det Try.prog 30 [.o (.str p)] [] (.t [.a (hdr tos id hold more at_ ttl proto fr to o), .o (.str dat), .o (.int .i64 e)]) []) : Det Try.prog 22 [.o (.int .u8 kind), .o (.int .u8 code), .o (.int .u32 w), .o (.str p)] [] (.t [.a (err14 kind code w e at_ fr to proto p o dat), .o (.bool (decide (errP kind e at_ fr to proto dat)))]) [] := by
  refine can_of_W known mix Try.func22 (by kernel_rfl) ok_ref14_Error (Nat.le_of_ble_eq_true rfl) ?_
  repeat' ((conv => whnf); first
    | ((with_reducible refine Look.mk ?_); refine ⟨_, rfl, ?_⟩)
    | ((with_reducible refine LookN.zeros ?_))
    | ((with_reducible refine LookN.bytes ?_ ?_); (simp; done))
    | ((with_reducible refine BytesW.bytes ?_))
    | ((with_reducible refine Look.byte ?_ ?_); omega)
    | ((with_reducible refine Look.setb ?_ ?_ ?_); exact bv8_bd _; omega)
    | ((with_reducible refine LookN.setb ?_ ?_ ?_); exact bv8_bd _; omega)
    | ((with_reducible refine LookN.mk ?_); refine ⟨_, rfl, ?_⟩)
    | ((with_reducible refine Need.mk ?_ ?_); first | ((with_reducible refine needB ?_); kernel_rfl) | exact rfl | trivial | omega | exact Nat.le_of_ble_eq_true rfl | (exact ⟨rfl, by omega⟩) | (intro h; first | rfl | cases h) | (simp only [lenS_text, lenS_setN, lenS_zeros]; omega) | (simp only [ByteArray.size_append, size_lit, List.size_toArray, List.length_cons, List.length_nil, Sp.ofB_size, ByteArray.size_extract]; omega))
    | ((with_reducible refine BytesW.mk ?_); refine ⟨_, rfl, ?_⟩)
    | (with_reducible refine CallW.det (D) ?_)
    | (with_reducible refine CallW.det (rbad_det _ hk) ?_)
    | (with_reducible refine CallW.det (rkind_det _ (by omega)) ?_)
    | ((with_reducible refine Test.tmodEqT ?_ ?_ ?_); omega; focus omega)
    | ((with_reducible refine Test.tmodEqF ?_ ?_ ?_); omega; focus omega)
    | ((with_reducible refine Test.tmodNeT ?_ ?_ ?_); omega; focus omega)
    | ((with_reducible refine Test.tmodNeF ?_ ?_ ?_); omega; focus omega)
    | ((with_reducible refine Test.tmodEq ?_ (fun h => ?_) (fun h => ?_)); omega)
    | ((with_reducible refine Test.tmodNe ?_ (fun h => ?_) (fun h => ?_)); omega)
    | (with_reducible refine Test.shru8_4 (fun h => ?_) (fun h => ?_))
    | (with_reducible refine Test.shreu8_4 (fun h => ?_) (fun h => ?_))
    | (with_reducible refine Test.shreu32_24 (fun h => ?_) (fun h => ?_))
    | (with_reducible refine Test.shrgeu32_24 (fun h => ?_) (fun h => ?_))
    | ((with_reducible refine Test.notT ?_ ?_); focus assumption)
    | ((with_reducible refine Test.notF ?_ ?_); focus assumption)
    | (with_reducible refine Test.notIe (fun h => ?_) (fun h => ?_))
    | (with_reducible refine Test.notD (fun h => ?_) (fun h => ?_))
    | ((with_reducible refine Test.empty (fun h => ?_) (fun h => ?_)))
    | (with_reducible refine Test.tt ?_)
    | (with_reducible refine Test.ff ?_)
    | ((with_reducible refine Test.dt ?_ ?_); omega)
    | ((with_reducible refine Test.df ?_ ?_); omega)
    | (with_reducible refine Test.d (fun h => ?_) (fun h => ?_))
    | ((with_reducible refine Test.ieT ?_ ?_); omega)
    | ((with_reducible refine Test.ieF ?_ ?_); omega)
    | ((with_reducible refine Test.neT ?_ ?_); omega)
    | ((with_reducible refine Test.neF ?_ ?_); omega)
    | (with_reducible refine Test.ie (fun h => ?_) (fun h => ?_))
    | (with_reducible refine Test.ne (fun h => ?_) (fun h => ?_))
    | ((with_reducible refine Test.b ?_ ?_); (focus first | assumption | (simp [negB]; done) | exact rfl))
    | ((with_reducible refine Test.nb ?_ ?_); (focus first | assumption | (simp [negB]; done) | exact rfl))
    | (with_reducible refine Test.notS (fun h => ?_) (fun h => ?_))
    | (with_reducible refine Test.mk (fun h => ?_) (fun h => ?_))
    | (with_reducible refine Arith.nsu32_24 ?_)
    | (with_reducible refine Arith.nsu32_16 ?_)
    | (with_reducible refine Arith.nsu32_8 ?_)
    | ((with_reducible refine Arith.andu8_15 ?_ ?_); omega)
    | ((with_reducible refine Arith.andu16_8191 ?_ ?_); omega)
    | ((with_reducible refine Arith.bitu16_16384 ?_ ?_); omega)
    | ((with_reducible refine Arith.bitu16_8192 ?_ ?_); omega)
    | ((with_reducible refine Arith.andu64_8191 ?_ ?_); omega)
    | ((with_reducible refine Arith.bitu64_16384 ?_ ?_); omega)
    | ((with_reducible refine Arith.bitu64_8192 ?_ ?_); omega)
    | ((with_reducible refine Arith.tdiv ?_ ?_); omega)
    | (with_reducible refine Arith.bv8 ?_)
    | (with_reducible refine Arith.bv16 ?_)
    | (with_reducible refine Arith.bv32 ?_)
    | (with_reducible refine Arith.bv64 ?_)
    | ((with_reducible refine Arith.i64 ?_ ?_); omega)
    | ((with_reducible refine Arith.u64 ?_ ?_); omega)
    | ((with_reducible refine Arith.u32 ?_ ?_); omega)
    | ((with_reducible refine Arith.u16 ?_ ?_); omega)
    | ((with_reducible refine Arith.u8 ?_ ?_); omega)
    | ((with_reducible refine Arith.i32 ?_ ?_); omega)
    | ((with_reducible refine Arith.i64 ?_ ?_); simp (discharger := omega) only [Int.tdiv_eq_ediv_of_nonneg, shr_u8_4, shl_u8_4, shr_u16_4, shl_u16_4, shr_u16_8, shl_u16_8, shr_u32_4, shl_u32_4, shr_u32_8, shl_u32_8, shr_u32_16, shl_u32_16, shr_u32_24, shl_u32_24, shr_u64_4, shl_u64_4, shr_u64_8, shl_u64_8, shr_u64_16, shl_u64_16, shr_u64_24, shl_u64_24, shr_u64_40, shl_u64_40, shr_i64_4, shl_i64_4, shr_i64_8, shl_i64_8, shr_i64_16, shl_i64_16, shr_i64_24, shl_i64_24, shr_i64_40, shl_i64_40]; omega)
    | ((with_reducible refine Arith.u64 ?_ ?_); simp (discharger := omega) only [Int.tdiv_eq_ediv_of_nonneg, shr_u8_4, shl_u8_4, shr_u16_4, shl_u16_4, shr_u16_8, shl_u16_8, shr_u32_4, shl_u32_4, shr_u32_8, shl_u32_8, shr_u32_16, shl_u32_16, shr_u32_24, shl_u32_24, shr_u64_4, shl_u64_4, shr_u64_8, shl_u64_8, shr_u64_16, shl_u64_16, shr_u64_24, shl_u64_24, shr_u64_40, shl_u64_40, shr_i64_4, shl_i64_4, shr_i64_8, shl_i64_8, shr_i64_16, shl_i64_16, shr_i64_24, shl_i64_24, shr_i64_40, shl_i64_40]; omega)
    | ((with_reducible refine Arith.u32 ?_ ?_); simp (discharger := omega) only [Int.tdiv_eq_ediv_of_nonneg, shr_u8_4, shl_u8_4, shr_u16_4, shl_u16_4, shr_u16_8, shl_u16_8, shr_u32_4, shl_u32_4, shr_u32_8, shl_u32_8, shr_u32_16, shl_u32_16, shr_u32_24, shl_u32_24, shr_u64_4, shl_u64_4, shr_u64_8, shl_u64_8, shr_u64_16, shl_u64_16, shr_u64_24, shl_u64_24, shr_u64_40, shl_u64_40, shr_i64_4, shl_i64_4, shr_i64_8, shl_i64_8, shr_i64_16, shl_i64_16, shr_i64_24, shl_i64_24, shr_i64_40, shl_i64_40]; omega)
    | ((with_reducible refine Arith.u16 ?_ ?_); simp (discharger := omega) only [Int.tdiv_eq_ediv_of_nonneg, shr_u8_4, shl_u8_4, shr_u16_4, shl_u16_4, shr_u16_8, shl_u16_8, shr_u32_4, shl_u32_4, shr_u32_8, shl_u32_8, shr_u32_16, shl_u32_16, shr_u32_24, shl_u32_24, shr_u64_4, shl_u64_4, shr_u64_8, shl_u64_8, shr_u64_16, shl_u64_16, shr_u64_24, shl_u64_24, shr_u64_40, shl_u64_40, shr_i64_4, shl_i64_4, shr_i64_8, shl_i64_8, shr_i64_16, shl_i64_16, shr_i64_24, shl_i64_24, shr_i64_40, shl_i64_40]; omega)
    | ((with_reducible refine Arith.u8 ?_ ?_); simp (discharger := omega) only [Int.tdiv_eq_ediv_of_nonneg, shr_u8_4, shl_u8_4, shr_u16_4, shl_u16_4, shr_u16_8, shl_u16_8, shr_u32_4, shl_u32_4, shr_u32_8, shl_u32_8, shr_u32_16, shl_u32_16, shr_u32_24, shl_u32_24, shr_u64_4, shl_u64_4, shr_u64_8, shl_u64_8, shr_u64_16, shl_u64_16, shr_u64_24, shl_u64_24, shr_u64_40, shl_u64_40, shr_i64_4, shl_i64_4, shr_i64_8, shl_i64_8, shr_i64_16, shl_i64_16, shr_i64_24, shl_i64_24, shr_i64_40, shl_i64_40]; omega)
    | (with_reducible refine Arith.mk ?_)
    | (with_reducible refine Ends.mk ?_))
  all_goals refine ⟨?_, rfl⟩
  all_goals first
    | exact err_no _ _ _ _ _ _ _ _ _ _ _ (by unfold errP; omega)
    | exact err_yes _ _ _ _ _ _ _ _ _ _ _ (by unfold errP; omega)
def quoP (ty : Int) (s : ByteArray) : Prop := (ty = 3 ∨ ty = 11 ∨ ty = 12) ∧ 20 ≤ (s.size : Int) ∧ bAt s (Int.toNat 0) / 16 = 4 ∧ 20 ≤ hl10 s ∧ hl10 s ≤ s.size ∧ Sp.sumB (s.extract (Int.toNat 0) (hl10 s).toNat) = 65535 ∧ n2 s 6 % 8192 = 0
instance (ty : Int) (s : ByteArray) : Decidable (quoP ty s) := by unfold quoP; infer_instance
def quo14 (ty : Int) (s : ByteArray) : List SV := if quoP ty s then hdr (bAt s (Int.toNat 1)) (n2 s 4) (hold10 s) (more10 s) 0 (bAt s (Int.toNat 8)) (bAt s (Int.toNat 9)) (n4 s 12) (n4 s 16) (s.extract (Int.toNat 20) (hl10 s).toNat) else hdr 0 0 false false 0 0 0 0 0 ⟨#[]⟩
def quo14d (ty : Int) (s : ByteArray) : ByteArray := if quoP ty s then s.extract (hl10 s).toNat s.size else ⟨#[]⟩
theorem quo_no (ty : Int) (s : ByteArray) (h : ¬ quoP ty s) : V.t [.a (hdr 0 0 false false 0 0 0 0 0 ⟨#[]⟩), .o (.str ⟨#[]⟩), .o (.bool false)] = .t [.a (quo14 ty s), .o (.str (quo14d ty s)), .o (.bool (decide (quoP ty s)))] := by unfold quo14 quo14d; rw [if_neg h, if_neg h, decide_eq_false h]
theorem quo_yes (ty : Int) (s : ByteArray) (h : quoP ty s) : V.t [.a (hdr (bAt s (Int.toNat 1)) (n2 s 4) (hold10 s) (more10 s) 0 (bAt s (Int.toNat 8)) (bAt s (Int.toNat 9)) (n4 s 12) (n4 s 16) (s.extract (Int.toNat 20) (hl10 s).toNat)), .o (.str (s.extract (hl10 s).toNat s.size)), .o (.bool true)] = .t [.a (quo14 ty s), .o (.str (quo14d ty s)), .o (.bool (decide (quoP ty s)))] := by unfold quo14 quo14d; rw [if_pos h, if_pos h, decide_eq_true h]
set_option maxHeartbeats 8000000 in
theorem quoted_det (ty co w : Int) (s : ByteArray) (hty : 0 ≤ ty ∧ ty ≤ 255) (hs : s.size ≤ 1000000) : Det Try.prog 23 [.a (msg ty co w s)] [] (.t [.a (quo14 ty s), .o (.str (quo14d ty s)), .o (.bool (decide (quoP ty s)))]) [] := by
  have b0 := bAt_bd s (Int.toNat 0)
  have c4 := n2_bd s 4
  have c6 := n2_bd s 6
  have eh : hl10 s = 4 * (bAt s (Int.toNat 0) % 16) := rfl
  refine can_of_W known mix Try.func23 (by kernel_rfl) ok_icmp_Quoted (Nat.le_of_ble_eq_true rfl) ?_
  repeat' ((conv => whnf); first
    | ((with_reducible refine Look.mk ?_); refine ⟨_, rfl, ?_⟩)
    | ((with_reducible refine LookN.zeros ?_))
    | ((with_reducible refine LookN.bytes ?_ ?_); (simp; done))
    | ((with_reducible refine BytesW.bytes ?_))
    | ((with_reducible refine Look.byte ?_ ?_); omega)
    | ((with_reducible refine Look.setb ?_ ?_ ?_); exact bv8_bd _; omega)
    | ((with_reducible refine LookN.setb ?_ ?_ ?_); exact bv8_bd _; omega)
    | ((with_reducible refine LookN.mk ?_); refine ⟨_, rfl, ?_⟩)
    | ((with_reducible refine Need.mk ?_ ?_); first | ((with_reducible refine needB ?_); kernel_rfl) | exact rfl | trivial | omega | exact Nat.le_of_ble_eq_true rfl | (exact ⟨rfl, by omega⟩) | (intro h; first | rfl | cases h) | (simp only [lenS_text, lenS_setN, lenS_zeros]; omega) | (simp only [ByteArray.size_append, size_lit, List.size_toArray, List.length_cons, List.length_nil, Sp.ofB_size, ByteArray.size_extract]; omega))
    | ((with_reducible refine BytesW.mk ?_); refine ⟨_, rfl, ?_⟩)
    | (with_reducible refine CallW.det (bad_det _ hty) ?_)
    | (with_reducible refine CallW.det (wordTwo _ _ (by unfold maxLen; omega) (by omega)) ?_)
    | (with_reducible refine CallW.det (wordFour _ _ (by unfold maxLen; omega) (by omega)) ?_)
    | (with_reducible refine CallW.det (sumRight1 _ _ _ (by rw [ByteArray.size_extract]; omega)) ?_)
    | (with_reducible refine Arith.n2i ?_)
    | (with_reducible refine Arith.n4i ?_)
    | ((with_reducible refine Test.tmodEqT ?_ ?_ ?_); omega; focus omega)
    | ((with_reducible refine Test.tmodEqF ?_ ?_ ?_); omega; focus omega)
    | ((with_reducible refine Test.tmodNeT ?_ ?_ ?_); omega; focus omega)
    | ((with_reducible refine Test.tmodNeF ?_ ?_ ?_); omega; focus omega)
    | ((with_reducible refine Test.tmodEq ?_ (fun h => ?_) (fun h => ?_)); omega)
    | ((with_reducible refine Test.tmodNe ?_ (fun h => ?_) (fun h => ?_)); omega)
    | (with_reducible refine Test.shru8_4 (fun h => ?_) (fun h => ?_))
    | (with_reducible refine Test.shreu8_4 (fun h => ?_) (fun h => ?_))
    | (with_reducible refine Test.shreu32_24 (fun h => ?_) (fun h => ?_))
    | (with_reducible refine Test.shrgeu32_24 (fun h => ?_) (fun h => ?_))
    | ((with_reducible refine Test.notT ?_ ?_); focus assumption)
    | ((with_reducible refine Test.notF ?_ ?_); focus assumption)
    | (with_reducible refine Test.notIe (fun h => ?_) (fun h => ?_))
    | (with_reducible refine Test.notD (fun h => ?_) (fun h => ?_))
    | ((with_reducible refine Test.empty (fun h => ?_) (fun h => ?_)))
    | (with_reducible refine Test.tt ?_)
    | (with_reducible refine Test.ff ?_)
    | ((with_reducible refine Test.dt ?_ ?_); omega)
    | ((with_reducible refine Test.df ?_ ?_); omega)
    | (with_reducible refine Test.d (fun h => ?_) (fun h => ?_))
    | ((with_reducible refine Test.ieT ?_ ?_); omega)
    | ((with_reducible refine Test.ieF ?_ ?_); omega)
    | ((with_reducible refine Test.neT ?_ ?_); omega)
    | ((with_reducible refine Test.neF ?_ ?_); omega)
    | (with_reducible refine Test.ie (fun h => ?_) (fun h => ?_))
    | (with_reducible refine Test.ne (fun h => ?_) (fun h => ?_))
    | ((with_reducible refine Test.b ?_ ?_); (focus first | assumption | (simp [negB]; done) | exact rfl))
    | ((with_reducible refine Test.nb ?_ ?_); (focus first | assumption | (simp [negB]; done) | exact rfl))
    | (with_reducible refine Test.notS (fun h => ?_) (fun h => ?_))
    | (with_reducible refine Test.mk (fun h => ?_) (fun h => ?_))
    | (with_reducible refine Arith.nsu32_24 ?_)
    | (with_reducible refine Arith.nsu32_16 ?_)
    | (with_reducible refine Arith.nsu32_8 ?_)
    | ((with_reducible refine Arith.andu8_15 ?_ ?_); omega)
    | ((with_reducible refine Arith.andu16_8191 ?_ ?_); omega)
    | ((with_reducible refine Arith.bitu16_16384 ?_ ?_); omega)
    | ((with_reducible refine Arith.bitu16_8192 ?_ ?_); omega)
    | ((with_reducible refine Arith.andu64_8191 ?_ ?_); omega)
    | ((with_reducible refine Arith.bitu64_16384 ?_ ?_); omega)
    | ((with_reducible refine Arith.bitu64_8192 ?_ ?_); omega)
    | ((with_reducible refine Arith.tdiv ?_ ?_); omega)
    | (with_reducible refine Arith.bv8 ?_)
    | (with_reducible refine Arith.bv16 ?_)
    | (with_reducible refine Arith.bv32 ?_)
    | (with_reducible refine Arith.bv64 ?_)
    | ((with_reducible refine Arith.i64 ?_ ?_); omega)
    | ((with_reducible refine Arith.u64 ?_ ?_); omega)
    | ((with_reducible refine Arith.u32 ?_ ?_); omega)
    | ((with_reducible refine Arith.u16 ?_ ?_); omega)
    | ((with_reducible refine Arith.u8 ?_ ?_); omega)
    | ((with_reducible refine Arith.i32 ?_ ?_); omega)
    | ((with_reducible refine Arith.i64 ?_ ?_); simp (discharger := omega) only [Int.tdiv_eq_ediv_of_nonneg, shr_u8_4, shl_u8_4, shr_u16_4, shl_u16_4, shr_u16_8, shl_u16_8, shr_u32_4, shl_u32_4, shr_u32_8, shl_u32_8, shr_u32_16, shl_u32_16, shr_u32_24, shl_u32_24, shr_u64_4, shl_u64_4, shr_u64_8, shl_u64_8, shr_u64_16, shl_u64_16, shr_u64_24, shl_u64_24, shr_u64_40, shl_u64_40, shr_i64_4, shl_i64_4, shr_i64_8, shl_i64_8, shr_i64_16, shl_i64_16, shr_i64_24, shl_i64_24, shr_i64_40, shl_i64_40]; omega)
    | ((with_reducible refine Arith.u64 ?_ ?_); simp (discharger := omega) only [Int.tdiv_eq_ediv_of_nonneg, shr_u8_4, shl_u8_4, shr_u16_4, shl_u16_4, shr_u16_8, shl_u16_8, shr_u32_4, shl_u32_4, shr_u32_8, shl_u32_8, shr_u32_16, shl_u32_16, shr_u32_24, shl_u32_24, shr_u64_4, shl_u64_4, shr_u64_8, shl_u64_8, shr_u64_16, shl_u64_16, shr_u64_24, shl_u64_24, shr_u64_40, shl_u64_40, shr_i64_4, shl_i64_4, shr_i64_8, shl_i64_8, shr_i64_16, shl_i64_16, shr_i64_24, shl_i64_24, shr_i64_40, shl_i64_40]; omega)
    | ((with_reducible refine Arith.u32 ?_ ?_); simp (discharger := omega) only [Int.tdiv_eq_ediv_of_nonneg, shr_u8_4, shl_u8_4, shr_u16_4, shl_u16_4, shr_u16_8, shl_u16_8, shr_u32_4, shl_u32_4, shr_u32_8, shl_u32_8, shr_u32_16, shl_u32_16, shr_u32_24, shl_u32_24, shr_u64_4, shl_u64_4, shr_u64_8, shl_u64_8, shr_u64_16, shl_u64_16, shr_u64_24, shl_u64_24, shr_u64_40, shl_u64_40, shr_i64_4, shl_i64_4, shr_i64_8, shl_i64_8, shr_i64_16, shl_i64_16, shr_i64_24, shl_i64_24, shr_i64_40, shl_i64_40]; omega)
    | ((with_reducible refine Arith.u16 ?_ ?_); simp (discharger := omega) only [Int.tdiv_eq_ediv_of_nonneg, shr_u8_4, shl_u8_4, shr_u16_4, shl_u16_4, shr_u16_8, shl_u16_8, shr_u32_4, shl_u32_4, shr_u32_8, shl_u32_8, shr_u32_16, shl_u32_16, shr_u32_24, shl_u32_24, shr_u64_4, shl_u64_4, shr_u64_8, shl_u64_8, shr_u64_16, shl_u64_16, shr_u64_24, shl_u64_24, shr_u64_40, shl_u64_40, shr_i64_4, shl_i64_4, shr_i64_8, shl_i64_8, shr_i64_16, shl_i64_16, shr_i64_24, shl_i64_24, shr_i64_40, shl_i64_40]; omega)
    | ((with_reducible refine Arith.u8 ?_ ?_); simp (discharger := omega) only [Int.tdiv_eq_ediv_of_nonneg, shr_u8_4, shl_u8_4, shr_u16_4, shl_u16_4, shr_u16_8, shl_u16_8, shr_u32_4, shl_u32_4, shr_u32_8, shl_u32_8, shr_u32_16, shl_u32_16, shr_u32_24, shl_u32_24, shr_u64_4, shl_u64_4, shr_u64_8, shl_u64_8, shr_u64_16, shl_u64_16, shr_u64_24, shl_u64_24, shr_u64_40, shl_u64_40, shr_i64_4, shl_i64_4, shr_i64_8, shl_i64_8, shr_i64_16, shl_i64_16, shr_i64_24, shl_i64_24, shr_i64_40, shl_i64_40]; omega)
    | (with_reducible refine Arith.mk ?_)
    | (with_reducible refine Ends.mk ?_))
  all_goals refine ⟨?_, rfl⟩
  all_goals first
    | exact quo_no _ _ (by unfold quoP; rw [eh]; omega)
    | exact quo_yes _ _ (by unfold quoP; rw [eh]; omega)
set_option maxHeartbeats 8000000 in
theorem rquoted_det (ty co w : Int) (s : ByteArray) (hty : 0 ≤ ty ∧ ty ≤ 255) (hs : s.size ≤ 1000000) : Det Try.prog 24 [.a (msg ty co w s)] [] (.t [.a (quo14 ty s), .o (.str (quo14d ty s)), .o (.bool (decide (quoP ty s)))]) [] := by
  have b0 := bAt_bd s (Int.toNat 0)
  have c4 := n2_bd s 4
  have c6 := n2_bd s 6
  have eh : hl10 s = 4 * (bAt s (Int.toNat 0) % 16) := rfl
  refine can_of_W known mix Try.func24 (by kernel_rfl) ok_ref14_Quoted (Nat.le_of_ble_eq_true rfl) ?_
  repeat' ((conv => whnf); first
    | ((with_reducible refine Look.mk ?_); refine ⟨_, rfl, ?_⟩)
    | ((with_reducible refine LookN.zeros ?_))
    | ((with_reducible refine LookN.bytes ?_ ?_); (simp; done))
    | ((with_reducible refine BytesW.bytes ?_))
    | ((with_reducible refine Look.byte ?_ ?_); omega)
    | ((with_reducible refine Look.setb ?_ ?_ ?_); exact bv8_bd _; omega)
    | ((with_reducible refine LookN.setb ?_ ?_ ?_); exact bv8_bd _; omega)
    | ((with_reducible refine LookN.mk ?_); refine ⟨_, rfl, ?_⟩)
    | ((with_reducible refine Need.mk ?_ ?_); first | ((with_reducible refine needB ?_); kernel_rfl) | exact rfl | trivial | omega | exact Nat.le_of_ble_eq_true rfl | (exact ⟨rfl, by omega⟩) | (intro h; first | rfl | cases h) | (simp only [lenS_text, lenS_setN, lenS_zeros]; omega) | (simp only [ByteArray.size_append, size_lit, List.size_toArray, List.length_cons, List.length_nil, Sp.ofB_size, ByteArray.size_extract]; omega))
    | ((with_reducible refine BytesW.mk ?_); refine ⟨_, rfl, ?_⟩)
    | (with_reducible refine CallW.det (rbad_det _ hty) ?_)
    | (with_reducible refine CallW.det (rNum2' _ _ (by omega) (by omega) (by omega)) ?_)
    | (with_reducible refine CallW.det (rNum4 _ _ (by omega) (by omega) (by omega)) ?_)
    | (with_reducible refine CallW.det (rRight _ (by rw [ByteArray.size_extract]; unfold maxLen; omega)) ?_)
    | (with_reducible refine Arith.n2i ?_)
    | (with_reducible refine Arith.n4i ?_)
    | ((with_reducible refine Test.tmodEqT ?_ ?_ ?_); omega; focus omega)
    | ((with_reducible refine Test.tmodEqF ?_ ?_ ?_); omega; focus omega)
    | ((with_reducible refine Test.tmodNeT ?_ ?_ ?_); omega; focus omega)
    | ((with_reducible refine Test.tmodNeF ?_ ?_ ?_); omega; focus omega)
    | ((with_reducible refine Test.tmodEq ?_ (fun h => ?_) (fun h => ?_)); omega)
    | ((with_reducible refine Test.tmodNe ?_ (fun h => ?_) (fun h => ?_)); omega)
    | (with_reducible refine Test.shru8_4 (fun h => ?_) (fun h => ?_))
    | (with_reducible refine Test.shreu8_4 (fun h => ?_) (fun h => ?_))
    | (with_reducible refine Test.shreu32_24 (fun h => ?_) (fun h => ?_))
    | (with_reducible refine Test.shrgeu32_24 (fun h => ?_) (fun h => ?_))
    | ((with_reducible refine Test.notT ?_ ?_); focus assumption)
    | ((with_reducible refine Test.notF ?_ ?_); focus assumption)
    | (with_reducible refine Test.notIe (fun h => ?_) (fun h => ?_))
    | (with_reducible refine Test.notD (fun h => ?_) (fun h => ?_))
    | ((with_reducible refine Test.empty (fun h => ?_) (fun h => ?_)))
    | (with_reducible refine Test.tt ?_)
    | (with_reducible refine Test.ff ?_)
    | ((with_reducible refine Test.dt ?_ ?_); omega)
    | ((with_reducible refine Test.df ?_ ?_); omega)
    | (with_reducible refine Test.d (fun h => ?_) (fun h => ?_))
    | ((with_reducible refine Test.ieT ?_ ?_); omega)
    | ((with_reducible refine Test.ieF ?_ ?_); omega)
    | ((with_reducible refine Test.neT ?_ ?_); omega)
    | ((with_reducible refine Test.neF ?_ ?_); omega)
    | (with_reducible refine Test.ie (fun h => ?_) (fun h => ?_))
    | (with_reducible refine Test.ne (fun h => ?_) (fun h => ?_))
    | ((with_reducible refine Test.b ?_ ?_); (focus first | assumption | (simp [negB]; done) | exact rfl))
    | ((with_reducible refine Test.nb ?_ ?_); (focus first | assumption | (simp [negB]; done) | exact rfl))
    | (with_reducible refine Test.notS (fun h => ?_) (fun h => ?_))
    | (with_reducible refine Test.mk (fun h => ?_) (fun h => ?_))
    | (with_reducible refine Arith.nsu32_24 ?_)
    | (with_reducible refine Arith.nsu32_16 ?_)
    | (with_reducible refine Arith.nsu32_8 ?_)
    | ((with_reducible refine Arith.andu8_15 ?_ ?_); omega)
    | ((with_reducible refine Arith.andu16_8191 ?_ ?_); omega)
    | ((with_reducible refine Arith.bitu16_16384 ?_ ?_); omega)
    | ((with_reducible refine Arith.bitu16_8192 ?_ ?_); omega)
    | ((with_reducible refine Arith.andu64_8191 ?_ ?_); omega)
    | ((with_reducible refine Arith.bitu64_16384 ?_ ?_); omega)
    | ((with_reducible refine Arith.bitu64_8192 ?_ ?_); omega)
    | ((with_reducible refine Arith.tdiv ?_ ?_); omega)
    | (with_reducible refine Arith.bv8 ?_)
    | (with_reducible refine Arith.bv16 ?_)
    | (with_reducible refine Arith.bv32 ?_)
    | (with_reducible refine Arith.bv64 ?_)
    | ((with_reducible refine Arith.i64 ?_ ?_); omega)
    | ((with_reducible refine Arith.u64 ?_ ?_); omega)
    | ((with_reducible refine Arith.u32 ?_ ?_); omega)
    | ((with_reducible refine Arith.u16 ?_ ?_); omega)
    | ((with_reducible refine Arith.u8 ?_ ?_); omega)
    | ((with_reducible refine Arith.i32 ?_ ?_); omega)
    | ((with_reducible refine Arith.i64 ?_ ?_); simp (discharger := omega) only [Int.tdiv_eq_ediv_of_nonneg, shr_u8_4, shl_u8_4, shr_u16_4, shl_u16_4, shr_u16_8, shl_u16_8, shr_u32_4, shl_u32_4, shr_u32_8, shl_u32_8, shr_u32_16, shl_u32_16, shr_u32_24, shl_u32_24, shr_u64_4, shl_u64_4, shr_u64_8, shl_u64_8, shr_u64_16, shl_u64_16, shr_u64_24, shl_u64_24, shr_u64_40, shl_u64_40, shr_i64_4, shl_i64_4, shr_i64_8, shl_i64_8, shr_i64_16, shl_i64_16, shr_i64_24, shl_i64_24, shr_i64_40, shl_i64_40]; omega)
    | ((with_reducible refine Arith.u64 ?_ ?_); simp (discharger := omega) only [Int.tdiv_eq_ediv_of_nonneg, shr_u8_4, shl_u8_4, shr_u16_4, shl_u16_4, shr_u16_8, shl_u16_8, shr_u32_4, shl_u32_4, shr_u32_8, shl_u32_8, shr_u32_16, shl_u32_16, shr_u32_24, shl_u32_24, shr_u64_4, shl_u64_4, shr_u64_8, shl_u64_8, shr_u64_16, shl_u64_16, shr_u64_24, shl_u64_24, shr_u64_40, shl_u64_40, shr_i64_4, shl_i64_4, shr_i64_8, shl_i64_8, shr_i64_16, shl_i64_16, shr_i64_24, shl_i64_24, shr_i64_40, shl_i64_40]; omega)
    | ((with_reducible refine Arith.u32 ?_ ?_); simp (discharger := omega) only [Int.tdiv_eq_ediv_of_nonneg, shr_u8_4, shl_u8_4, shr_u16_4, shl_u16_4, shr_u16_8, shl_u16_8, shr_u32_4, shl_u32_4, shr_u32_8, shl_u32_8, shr_u32_16, shl_u32_16, shr_u32_24, shl_u32_24, shr_u64_4, shl_u64_4, shr_u64_8, shl_u64_8, shr_u64_16, shl_u64_16, shr_u64_24, shl_u64_24, shr_u64_40, shl_u64_40, shr_i64_4, shl_i64_4, shr_i64_8, shl_i64_8, shr_i64_16, shl_i64_16, shr_i64_24, shl_i64_24, shr_i64_40, shl_i64_40]; omega)
    | ((with_reducible refine Arith.u16 ?_ ?_); simp (discharger := omega) only [Int.tdiv_eq_ediv_of_nonneg, shr_u8_4, shl_u8_4, shr_u16_4, shl_u16_4, shr_u16_8, shl_u16_8, shr_u32_4, shl_u32_4, shr_u32_8, shl_u32_8, shr_u32_16, shl_u32_16, shr_u32_24, shl_u32_24, shr_u64_4, shl_u64_4, shr_u64_8, shl_u64_8, shr_u64_16, shl_u64_16, shr_u64_24, shl_u64_24, shr_u64_40, shl_u64_40, shr_i64_4, shl_i64_4, shr_i64_8, shl_i64_8, shr_i64_16, shl_i64_16, shr_i64_24, shl_i64_24, shr_i64_40, shl_i64_40]; omega)
    | ((with_reducible refine Arith.u8 ?_ ?_); simp (discharger := omega) only [Int.tdiv_eq_ediv_of_nonneg, shr_u8_4, shl_u8_4, shr_u16_4, shl_u16_4, shr_u16_8, shl_u16_8, shr_u32_4, shl_u32_4, shr_u32_8, shl_u32_8, shr_u32_16, shl_u32_16, shr_u32_24, shl_u32_24, shr_u64_4, shl_u64_4, shr_u64_8, shl_u64_8, shr_u64_16, shl_u64_16, shr_u64_24, shl_u64_24, shr_u64_40, shl_u64_40, shr_i64_4, shl_i64_4, shr_i64_8, shl_i64_8, shr_i64_16, shl_i64_16, shr_i64_24, shl_i64_24, shr_i64_40, shl_i64_40]; omega)
    | (with_reducible refine Arith.mk ?_)
    | (with_reducible refine Ends.mk ?_))
  all_goals refine ⟨?_, rfl⟩
  all_goals first
    | exact quo_no _ _ (by unfold quoP; rw [eh]; omega)
    | exact quo_yes _ _ (by unfold quoP; rw [eh]; omega)
def vf_law14_alive : VFn := ⟨(.seq (.reg [
    ⟨(some 0), .mv (.c (.p (.o (.bool false)))), none, 0⟩] 0 none) (.seq (.reg [
    ⟨(some 19), .bld [.int .u8 0, .int .u8 0, .int .u32 0, .str ⟨#[]⟩] [(0, 1, (.c (.p (.o (.int .u8 8))))), (2, 1, (.c (.p (.o (.int .u32 7))))), (3, 1, (.c (.p (.o (.str ⟨#[97, 98]⟩)))))], none, 0⟩,
    ⟨(some 20), .call 19 [(.t 19)] 0, none, 0⟩,
    ⟨(some 18), .mv (.t 20), none, 0⟩,
    ⟨(some 21), .ext 0 (.t 18), none, 0⟩,
    ⟨(some 22), .ext 1 (.t 18), none, 0⟩,
    ⟨(some 1), .new [.int .u8 0, .int .u8 0, .int .u32 0, .str ⟨#[]⟩], none, 0⟩,
    ⟨none, .st 4 (.t 1) (.t 21), none, 1⟩,
    ⟨(some 2), .mv (.t 22), none, 1⟩] 1 none) (.seq (.reg [
    ⟨(some 24), .bld [.int .u8 0, .int .u16 0, .bool false, .bool false, .int .i64 0, .int .u8 0, .int .u8 0, .int .u32 0, .int .u32 0, .str ⟨#[]⟩] [(5, 1, (.c (.p (.o (.int .u8 1))))), (6, 1, (.c (.p (.o (.int .u8 17))))), (7, 1, (.c (.p (.o (.int .u32 167772161))))), (8, 1, (.c (.p (.o (.int .u32 167772162)))))], none, 0⟩,
    ⟨(some 25), .mks 1 1 [.int .u8 0] (.c (.p (.o (.int .i64 20)))) (.c (.p (.o (.int .i64 20)))), none, 0⟩,
    ⟨(some 26), .b2s (.t 25), none, 1⟩,
    ⟨(some 27), .call 26 [(.t 24), (.t 26)] 0, none, 1⟩,
    ⟨(some 23), .mv (.t 27), none, 1⟩,
    ⟨(some 28), .ext 0 (.t 23), none, 1⟩,
    ⟨(some 29), .ext 1 (.t 23), none, 1⟩,
    ⟨(some 3), .mv (.t 28), none, 1⟩,
    ⟨(some 4), .mv (.t 29), none, 1⟩] 1 none) (.seq (.reg [
    ⟨(some 31), .mv (.t 3), none, 0⟩,
    ⟨(some 32), .call 21 [(.c (.p (.o (.int .u8 3)))), (.c (.p (.o (.int .u8 3)))), (.c (.p (.o (.int .u32 0)))), (.t 31)] 0, none, 0⟩,
    ⟨(some 30), .mv (.t 32), none, 0⟩,
    ⟨(some 33), .ext 0 (.t 30), none, 0⟩,
    ⟨(some 34), .ext 1 (.t 30), none, 0⟩,
    ⟨(some 5), .new [.int .u8 0, .int .u8 0, .int .u32 0, .str ⟨#[]⟩], none, 0⟩,
    ⟨none, .st 4 (.t 5) (.t 33), none, 1⟩,
    ⟨(some 6), .mv (.t 34), none, 1⟩] 1 none) (.seq (.reg [
    ⟨(some 36), .ld (some 4) (.t 5), none, 0⟩,
    ⟨(some 37), .call 15 [(.t 36)] 0, none, 0⟩,
    ⟨(some 35), .mv (.t 37), none, 0⟩,
    ⟨(some 38), .ext 0 (.t 35), none, 0⟩,
    ⟨(some 39), .ext 1 (.t 35), none, 0⟩,
    ⟨(some 7), .mv (.t 38), none, 0⟩,
    ⟨(some 8), .mv (.t 39), none, 0⟩] 0 none) (.seq (.reg [
    ⟨(some 41), .mv (.t 7), none, 0⟩,
    ⟨(some 42), .call 17 [(.t 41)] 0, none, 0⟩,
    ⟨(some 40), .mv (.t 42), none, 0⟩,
    ⟨(some 43), .ext 0 (.t 40), none, 0⟩,
    ⟨(some 44), .ext 1 (.t 40), none, 0⟩,
    ⟨(some 9), .new [.int .u8 0, .int .u8 0, .int .u32 0, .str ⟨#[]⟩], none, 0⟩,
    ⟨none, .st 4 (.t 9) (.t 43), none, 1⟩,
    ⟨(some 10), .mv (.t 44), none, 1⟩] 1 none) (.seq (.reg [
    ⟨(some 46), .ld (some 4) (.t 9), none, 0⟩,
    ⟨(some 47), .call 23 [(.t 46)] 0, none, 0⟩,
    ⟨(some 45), .mv (.t 47), none, 0⟩,
    ⟨(some 48), .ext 0 (.t 45), none, 0⟩,
    ⟨(some 49), .ext 1 (.t 45), none, 0⟩,
    ⟨(some 50), .ext 2 (.t 45), none, 0⟩,
    ⟨(some 11), .new [.int .u8 0, .int .u16 0, .bool false, .bool false, .int .i64 0, .int .u8 0, .int .u8 0, .int .u32 0, .int .u32 0, .str ⟨#[]⟩], none, 0⟩,
    ⟨none, .st 10 (.t 11) (.t 48), none, 1⟩,
    ⟨(some 12), .mv (.t 49), none, 1⟩,
    ⟨(some 13), .mv (.t 50), none, 1⟩] 1 none) (.seq (.reg [
    ⟨(some 52), .mv (.t 7), none, 0⟩,
    ⟨(some 53), .call 42 [(.t 52), (.c (.p (.o (.int .i64 7))))] 0, none, 0⟩,
    ⟨(some 54), .call 17 [(.t 53)] 0, none, 0⟩,
    ⟨(some 51), .mv (.t 54), none, 0⟩,
    ⟨(some 55), .ext 0 (.t 51), none, 0⟩,
    ⟨(some 56), .ext 1 (.t 51), none, 0⟩,
    ⟨(some 14), .new [.int .u8 0, .int .u8 0, .int .u32 0, .str ⟨#[]⟩], none, 0⟩,
    ⟨none, .st 4 (.t 14) (.t 55), none, 1⟩,
    ⟨(some 15), .mv (.t 56), none, 1⟩] 1 none) (.seq (.reg [
    ⟨(some 58), .mv (.t 7), none, 0⟩,
    ⟨(some 59), .call 43 [(.t 58), (.c (.p (.o (.int .i64 1))))] 0, none, 0⟩,
    ⟨(some 60), .bin .add (.c (.p (.o (.str ⟨#[120]⟩)))) (.t 59), none, 0⟩,
    ⟨(some 61), .call 17 [(.t 60)] 0, none, 0⟩,
    ⟨(some 57), .mv (.t 61), none, 0⟩,
    ⟨(some 62), .ext 0 (.t 57), none, 0⟩,
    ⟨(some 63), .ext 1 (.t 57), none, 0⟩,
    ⟨(some 16), .new [.int .u8 0, .int .u8 0, .int .u32 0, .str ⟨#[]⟩], none, 0⟩,
    ⟨none, .st 4 (.t 16) (.t 62), none, 1⟩,
    ⟨(some 17), .mv (.t 63), none, 1⟩] 1 none) (.seq (.reg [
    ⟨(some 64), .mv (.t 2), none, 0⟩,
    ⟨(some 65), .mv (.t 64), none, 0⟩,
    ⟨(some 66), .ld (some 4) (.t 1), (some (65, true)), 0⟩,
    ⟨(some 67), .bld [.int .u8 0, .int .u8 0, .int .u32 0, .str ⟨#[]⟩] [(0, 1, (.c (.p (.o (.int .u8 0))))), (2, 1, (.c (.p (.o (.int .u32 7))))), (3, 1, (.c (.p (.o (.str ⟨#[97, 98]⟩)))))], (some (65, true)), 0⟩,
    ⟨(some 68), .eq (.flat [.int .u8, .int .u8, .int .u32, .str]) false (.t 66) (.t 67), (some (65, true)), 0⟩,
    ⟨(some 69), .pick (.t 65) (.t 68) (.c (.p (.o (.bool false)))), none, 0⟩,
    ⟨(some 70), .mv (.t 69), none, 0⟩,
    ⟨(some 71), .mv (.t 6), (some (70, true)), 0⟩,
    ⟨(some 72), .pick (.t 70) (.t 71) (.c (.p (.o (.bool false)))), none, 0⟩,
    ⟨(some 73), .mv (.t 72), none, 0⟩,
    ⟨(some 74), .fad 3 (.t 5), (some (73, true)), 0⟩,
    ⟨(some 75), .ld none (.t 74), (some (73, true)), 0⟩,
    ⟨(some 76), .len false (.t 75), (some (73, true)), 0⟩,
    ⟨(some 77), .bin .eql (.t 76) (.c (.p (.o (.int .i64 28)))), (some (73, true)), 0⟩,
    ⟨(some 78), .pick (.t 73) (.t 77) (.c (.p (.o (.bool false)))), none, 0⟩,
    ⟨(some 79), .mv (.t 78), none, 0⟩,
    ⟨(some 80), .mv (.t 8), (some (79, true)), 0⟩,
    ⟨(some 81), .bin .eql (.t 80) (.c (.p (.o (.int .i64 0)))), (some (79, true)), 0⟩,
    ⟨(some 82), .pick (.t 79) (.t 81) (.c (.p (.o (.bool false)))), none, 0⟩,
    ⟨(some 83), .mv (.t 82), none, 0⟩,
    ⟨(some 84), .mv (.t 10), (some (83, true)), 0⟩,
    ⟨(some 85), .bin .eql (.t 84) (.c (.p (.o (.int .i64 0)))), (some (83, true)), 0⟩,
    ⟨(some 86), .pick (.t 83) (.t 85) (.c (.p (.o (.bool false)))), none, 0⟩,
    ⟨(some 87), .mv (.t 86), none, 0⟩,
    ⟨(some 88), .ld (some 4) (.t 9), (some (87, true)), 0⟩,
    ⟨(some 89), .ld (some 4) (.t 5), (some (87, true)), 0⟩,
    ⟨(some 90), .eq (.flat [.int .u8, .int .u8, .int .u32, .str]) false (.t 88) (.t 89), (some (87, true)), 0⟩,
    ⟨(some 91), .pick (.t 87) (.t 90) (.c (.p (.o (.bool false)))), none, 0⟩,
    ⟨(some 92), .mv (.t 91), none, 0⟩,
    ⟨(some 93), .mv (.t 13), (some (92, true)), 0⟩,
    ⟨(some 94), .pick (.t 92) (.t 93) (.c (.p (.o (.bool false)))), none, 0⟩,
    ⟨(some 95), .mv (.t 94), none, 0⟩,
    ⟨(some 96), .fad 7 (.t 11), (some (95, true)), 0⟩,
    ⟨(some 97), .ld none (.t 96), (some (95, true)), 0⟩,
    ⟨(some 98), .bin .eql (.t 97) (.c (.p (.o (.int .u32 167772161)))), (some (95, true)), 0⟩,
    ⟨(some 99), .pick (.t 95) (.t 98) (.c (.p (.o (.bool false)))), none, 0⟩,
    ⟨(some 100), .mv (.t 99), none, 0⟩,
    ⟨(some 101), .mv (.t 12), (some (100, true)), 0⟩,
    ⟨(some 102), .len false (.t 101), (some (100, true)), 0⟩,
    ⟨(some 103), .bin .eql (.t 102) (.c (.p (.o (.int .i64 8)))), (some (100, true)), 0⟩,
    ⟨(some 104), .pick (.t 100) (.t 103) (.c (.p (.o (.bool false)))), none, 0⟩,
    ⟨(some 105), .mv (.t 104), none, 0⟩,
    ⟨(some 106), .mv (.t 15), (some (105, true)), 0⟩,
    ⟨(some 107), .bin .eql (.t 106) (.c (.p (.o (.int .i64 10)))), (some (105, true)), 0⟩,
    ⟨(some 108), .pick (.t 105) (.t 107) (.c (.p (.o (.bool false)))), none, 0⟩,
    ⟨(some 109), .mv (.t 108), none, 0⟩,
    ⟨(some 110), .mv (.t 17), (some (109, true)), 0⟩,
    ⟨(some 111), .bin .eql (.t 110) (.c (.p (.o (.int .i64 101)))), (some (109, true)), 0⟩,
    ⟨(some 112), .pick (.t 109) (.t 111) (.c (.p (.o (.bool false)))), none, 0⟩,
    ⟨(some 0), .mv (.t 112), none, 0⟩] 0 none) .ret)))))))))),
  [.tmp 0], 113, [0, 1, 2, 3, 5, 6, 7, 8, 9, 10, 11, 12, 13, 15, 17]⟩
theorem ok_law14_alive : cFn Try.prog eqsT newsT vf_law14_alive.keep Try.f14 = some vf_law14_alive := by kernel_rfl
def vf_law14_cut : VFn := ⟨(.seq (.reg [
    ⟨(some 4), .mv (.c (.p (.o (.str ⟨#[]⟩)))), none, 0⟩] 0 none) (.seq (.seq (.reg [
    ⟨(some 5), .mv (.t 1), none, 0⟩,
    ⟨(some 6), .mv (.t 0), none, 0⟩,
    ⟨(some 7), .len false (.t 6), none, 0⟩,
    ⟨(some 8), .bin .gtr (.t 5) (.t 7), none, 0⟩] 0 none) (.cond (.t 8) (.seq (.reg [
    ⟨(some 9), .mv (.t 0), none, 0⟩,
    ⟨(some 4), .mv (.t 9), none, 0⟩] 0 none) .ret) .skip)) (.seq (.reg [
    ⟨(some 10), .mv (.t 0), none, 0⟩,
    ⟨(some 11), .mv (.t 1), none, 0⟩,
    ⟨(some 12), .sls (.t 10) none (some (.t 11)), none, 0⟩,
    ⟨(some 4), .mv (.t 12), none, 0⟩] 0 none) .ret))),
  [.tmp 4], 13, [0, 1, 4]⟩
theorem ok_law14_cut : cFn Try.prog eqsT newsT vf_law14_cut.keep Try.f42 = some vf_law14_cut := by kernel_rfl
def vf_law14_behind : VFn := ⟨(.seq (.reg [
    ⟨(some 4), .mv (.c (.p (.o (.str ⟨#[]⟩)))), none, 0⟩] 0 none) (.seq (.seq (.reg [
    ⟨(some 5), .mv (.t 1), none, 0⟩,
    ⟨(some 6), .mv (.t 0), none, 0⟩,
    ⟨(some 7), .len false (.t 6), none, 0⟩,
    ⟨(some 8), .bin .gtr (.t 5) (.t 7), none, 0⟩] 0 none) (.cond (.t 8) (.seq (.reg [
    ⟨(some 4), .mv (.c (.p (.o (.str ⟨#[]⟩)))), none, 0⟩] 0 none) .ret) .skip)) (.seq (.reg [
    ⟨(some 9), .mv (.t 0), none, 0⟩,
    ⟨(some 10), .mv (.t 1), none, 0⟩,
    ⟨(some 11), .sls (.t 9) (some (.t 10)) none, none, 0⟩,
    ⟨(some 4), .mv (.t 11), none, 0⟩] 0 none) .ret))),
  [.tmp 4], 12, [0, 1, 4]⟩
theorem ok_law14_behind : cFn Try.prog eqsT newsT vf_law14_behind.keep Try.f43 = some vf_law14_behind := by kernel_rfl
def vf_word_Of : VFn := ⟨(.seq (.reg [
    ⟨(some 4), .mv (.c (.p (.o (.str ⟨#[]⟩)))), none, 0⟩] 0 none) (.seq (.reg [
    ⟨(some 5), .new [.int .u8 0, .int .u8 0, .int .u8 0, .int .u8 0, .int .u8 0, .int .u8 0, .int .u8 0, .int .u8 0], none, 0⟩] 1 none) (.seq (.seq (.reg [
    ⟨(some 7), .mv (.c (.p (.o (.int .i64 0)))), none, 0⟩] 0 none) (.block 0 (.loop (.seq (.reg [
    ⟨(some 8), .bin .lss (.t 7) (.c (.p (.o (.int .i64 8)))), none, 0⟩] 0 none) (.seq (.cond (.t 8) .skip (.exit 0)) (.seq (.block 1 (.seq (.reg [
    ⟨(some 9), .mv (.t 7), none, 0⟩,
    ⟨(some 6), .mv (.t 9), none, 0⟩] 0 none) (.reg [
    ⟨(some 10), .mv (.t 6), none, 0⟩,
    ⟨(some 11), .bin .sub (.c (.p (.o (.int .i64 7)))) (.t 10), none, 0⟩,
    ⟨(some 12), .mv (.t 0), none, 0⟩,
    ⟨(some 13), .mv (.t 6), none, 0⟩,
    ⟨(some 14), .bin .mul (.c (.p (.o (.int .i64 8)))) (.t 13), none, 0⟩,
    ⟨(some 15), .bin .shr (.t 12) (.t 14), none, 0⟩,
    ⟨(some 16), .cvi .u8 (.t 15), none, 0⟩,
    ⟨(some 17), .iaa 8 1 (.t 5) (.t 11), none, 0⟩,
    ⟨none, .st 1 (.t 17) (.t 16), none, 0⟩] 0 none))) (.reg [
    ⟨(some 18), .bin .add (.t 7) (.c (.p (.o (.int .i64 1)))), none, 0⟩,
    ⟨(some 7), .mv (.t 18), none, 0⟩] 0 none))))))) (.seq (.reg [
    ⟨(some 19), .mv (.t 1), none, 0⟩,
    ⟨(some 20), .mnx true (.t 19) (.c (.p (.o (.int .i64 0)))), none, 0⟩,
    ⟨(some 21), .mnx false (.t 20) (.c (.p (.o (.int .i64 8)))), none, 0⟩,
    ⟨(some 22), .bin .sub (.c (.p (.o (.int .i64 8)))) (.t 21), none, 0⟩,
    ⟨(some 23), .sla 8 1 (.t 5) (some (.t 22)) none, none, 0⟩,
    ⟨(some 24), .b2s (.t 23), none, 0⟩,
    ⟨(some 4), .mv (.t 24), none, 0⟩] 0 none) .ret)))),
  [.tmp 4], 25, [0, 1, 4, 5, 6, 7]⟩
theorem ok_word_Of : cFn Try.prog eqsT newsT vf_word_Of.keep Try.f44 = some vf_word_Of := by kernel_rfl
def vf_word_Four : VFn := ⟨(.seq (.reg [
    ⟨(some 4), .mv (.c (.p (.o (.int .u32 0)))), none, 0⟩,
    ⟨(some 5), .mv (.c (.p (.o (.int .i64 0)))), none, 0⟩] 0 none) (.seq (.reg [
    ⟨(some 6), .mv (.t 0), none, 0⟩,
    ⟨(some 7), .mv (.t 1), none, 0⟩,
    ⟨(some 8), .call 80 [(.t 6), (.t 7), (.c (.p (.o (.int .i64 4))))] 0, none, 0⟩,
    ⟨(some 9), .ext 0 (.t 8), none, 0⟩,
    ⟨(some 10), .ext 1 (.t 8), none, 0⟩,
    ⟨(some 4), .mv (.t 9), none, 0⟩,
    ⟨(some 5), .mv (.t 10), none, 0⟩] 0 none) .ret)),
  [.tmp 4, .tmp 5], 11, [0, 1, 4, 5]⟩
theorem ok_word_Four : cFn Try.prog eqsT newsT vf_word_Four.keep Try.f49 = some vf_word_Four := by kernel_rfl
def vf_word_Two : VFn := ⟨(.seq (.reg [
    ⟨(some 4), .mv (.c (.p (.o (.int .u16 0)))), none, 0⟩,
    ⟨(some 5), .mv (.c (.p (.o (.int .i64 0)))), none, 0⟩] 0 none) (.seq (.reg [
    ⟨(some 6), .mv (.t 0), none, 0⟩,
    ⟨(some 7), .mv (.t 1), none, 0⟩,
    ⟨(some 8), .call 88 [(.t 6), (.t 7), (.c (.p (.o (.int .i64 2))))] 0, none, 0⟩,
    ⟨(some 9), .ext 0 (.t 8), none, 0⟩,
    ⟨(some 10), .ext 1 (.t 8), none, 0⟩,
    ⟨(some 4), .mv (.t 9), none, 0⟩,
    ⟨(some 5), .mv (.t 10), none, 0⟩] 0 none) .ret)),
  [.tmp 4, .tmp 5], 11, [0, 1, 4, 5]⟩
theorem ok_word_Two : cFn Try.prog eqsT newsT vf_word_Two.keep Try.f60 = some vf_word_Two := by kernel_rfl
def vf_word_read_uint32_ : VFn := ⟨(.seq (.reg [
    ⟨(some 6), .mv (.c (.p (.o (.int .u32 0)))), none, 0⟩,
    ⟨(some 7), .mv (.c (.p (.o (.int .i64 0)))), none, 0⟩] 0 none) (.seq (.reg [
    ⟨(some 12), .mv (.t 0), none, 0⟩,
    ⟨(some 13), .mv (.t 1), none, 0⟩,
    ⟨(some 14), .mv (.t 2), none, 0⟩,
    ⟨(some 15), .call 95 [(.t 12), (.t 13), (.t 14)] 0, none, 0⟩,
    ⟨(some 11), .mv (.t 15), none, 0⟩,
    ⟨(some 16), .ext 0 (.t 11), none, 0⟩,
    ⟨(some 17), .ext 1 (.t 11), none, 0⟩,
    ⟨(some 8), .mv (.t 16), none, 0⟩,
    ⟨(some 7), .mv (.t 17), none, 0⟩] 0 none) (.seq (.seq (.reg [
    ⟨(some 18), .mv (.t 8), none, 0⟩,
    ⟨(some 19), .s2b (.t 18), none, 0⟩,
    ⟨(some 20), .len true (.t 19), none, 1⟩,
    ⟨(some 21), .mv (.c (.p (.o (.int .i64 0)))), none, 1⟩] 1 none) (.block 0 (.loop (.seq (.reg [
    ⟨(some 22), .bin .lss (.t 21) (.t 20), none, 0⟩] 0 none) (.seq (.cond (.t 22) .skip (.exit 0)) (.seq (.block 1 (.seq (.reg [
    ⟨(some 23), .iad 1 (.t 19) (.t 21), none, 0⟩,
    ⟨(some 24), .ld none (.t 23), none, 0⟩,
    ⟨(some 10), .mv (.t 24), none, 0⟩] 0 none) (.reg [
    ⟨(some 25), .mv (.t 6), none, 0⟩,
    ⟨(some 26), .cvi .u64 (.t 25), none, 0⟩,
    ⟨(some 27), .bin .shl (.t 26) (.c (.p (.o (.int .u64 8)))), none, 0⟩,
    ⟨(some 28), .mv (.t 10), none, 0⟩,
    ⟨(some 29), .cvi .u64 (.t 28), none, 0⟩,
    ⟨(some 30), .bin .or (.t 27) (.t 29), none, 0⟩,
    ⟨(some 31), .cvi .u32 (.t 30), none, 0⟩,
    ⟨(some 6), .mv (.t 31), none, 0⟩] 0 none))) (.reg [
    ⟨(some 32), .bin .add (.t 21) (.c (.p (.o (.int .i64 1)))), none, 0⟩,
    ⟨(some 21), .mv (.t 32), none, 0⟩] 0 none))))))) (.seq (.reg [
    ⟨(some 33), .mv (.t 6), none, 0⟩,
    ⟨(some 34), .mv (.t 7), none, 0⟩,
    ⟨(some 6), .mv (.t 33), none, 0⟩,
    ⟨(some 7), .mv (.t 34), none, 0⟩] 0 none) .ret)))),
  [.tmp 6, .tmp 7], 35, [0, 1, 2, 6, 7, 8, 10, 19, 20, 21]⟩
theorem ok_word_read_uint32_ : cFn Try.prog eqsT newsT vf_word_read_uint32_.keep Try.f80 = some vf_word_read_uint32_ := by kernel_rfl
def vf_word_read_uint16_ : VFn := ⟨(.seq (.reg [
    ⟨(some 6), .mv (.c (.p (.o (.int .u16 0)))), none, 0⟩,
    ⟨(some 7), .mv (.c (.p (.o (.int .i64 0)))), none, 0⟩] 0 none) (.seq (.reg [
    ⟨(some 12), .mv (.t 0), none, 0⟩,
    ⟨(some 13), .mv (.t 1), none, 0⟩,
    ⟨(some 14), .mv (.t 2), none, 0⟩,
    ⟨(some 15), .call 95 [(.t 12), (.t 13), (.t 14)] 0, none, 0⟩,
    ⟨(some 11), .mv (.t 15), none, 0⟩,
    ⟨(some 16), .ext 0 (.t 11), none, 0⟩,
    ⟨(some 17), .ext 1 (.t 11), none, 0⟩,
    ⟨(some 8), .mv (.t 16), none, 0⟩,
    ⟨(some 7), .mv (.t 17), none, 0⟩] 0 none) (.seq (.seq (.reg [
    ⟨(some 18), .mv (.t 8), none, 0⟩,
    ⟨(some 19), .s2b (.t 18), none, 0⟩,
    ⟨(some 20), .len true (.t 19), none, 1⟩,
    ⟨(some 21), .mv (.c (.p (.o (.int .i64 0)))), none, 1⟩] 1 none) (.block 0 (.loop (.seq (.reg [
    ⟨(some 22), .bin .lss (.t 21) (.t 20), none, 0⟩] 0 none) (.seq (.cond (.t 22) .skip (.exit 0)) (.seq (.block 1 (.seq (.reg [
    ⟨(some 23), .iad 1 (.t 19) (.t 21), none, 0⟩,
    ⟨(some 24), .ld none (.t 23), none, 0⟩,
    ⟨(some 10), .mv (.t 24), none, 0⟩] 0 none) (.reg [
    ⟨(some 25), .mv (.t 6), none, 0⟩,
    ⟨(some 26), .cvi .u64 (.t 25), none, 0⟩,
    ⟨(some 27), .bin .shl (.t 26) (.c (.p (.o (.int .u64 8)))), none, 0⟩,
    ⟨(some 28), .mv (.t 10), none, 0⟩,
    ⟨(some 29), .cvi .u64 (.t 28), none, 0⟩,
    ⟨(some 30), .bin .or (.t 27) (.t 29), none, 0⟩,
    ⟨(some 31), .cvi .u16 (.t 30), none, 0⟩,
    ⟨(some 6), .mv (.t 31), none, 0⟩] 0 none))) (.reg [
    ⟨(some 32), .bin .add (.t 21) (.c (.p (.o (.int .i64 1)))), none, 0⟩,
    ⟨(some 21), .mv (.t 32), none, 0⟩] 0 none))))))) (.seq (.reg [
    ⟨(some 33), .mv (.t 6), none, 0⟩,
    ⟨(some 34), .mv (.t 7), none, 0⟩,
    ⟨(some 6), .mv (.t 33), none, 0⟩,
    ⟨(some 7), .mv (.t 34), none, 0⟩] 0 none) .ret)))),
  [.tmp 6, .tmp 7], 35, [0, 1, 2, 6, 7, 8, 10, 19, 20, 21]⟩
theorem ok_word_read_uint16_ : cFn Try.prog eqsT newsT vf_word_read_uint16_.keep Try.f88 = some vf_word_read_uint16_ := by kernel_rfl
def vf_word_Text : VFn := ⟨(.seq (.reg [
    ⟨(some 6), .mv (.c (.p (.o (.str ⟨#[]⟩)))), none, 0⟩,
    ⟨(some 7), .mv (.c (.p (.o (.int .i64 0)))), none, 0⟩] 0 none) (.seq (.block 0 (.seq (.reg [
    ⟨(some 9), .mv (.t 1), none, 0⟩,
    ⟨(some 10), .bin .lss (.t 9) (.c (.p (.o (.int .i64 0)))), none, 0⟩,
    ⟨(some 11), .mv (.t 10), none, 0⟩,
    ⟨(some 12), .mv (.t 2), (some (11, false)), 0⟩,
    ⟨(some 13), .bin .lss (.t 12) (.c (.p (.o (.int .i64 0)))), (some (11, false)), 0⟩,
    ⟨(some 14), .pick (.t 11) (.c (.p (.o (.bool true)))) (.t 13), none, 0⟩,
    ⟨(some 8), .mv (.t 14), none, 0⟩] 0 none) (.cond (.t 8) (.seq (.reg [
    ⟨(some 6), .mv (.c (.p (.o (.str ⟨#[]⟩)))), none, 0⟩,
    ⟨(some 7), .mv (.c (.p (.o (.int .i64 2)))), none, 0⟩] 0 none) .ret) (.seq (.reg [
    ⟨(some 16), .mv (.t 1), none, 0⟩,
    ⟨(some 17), .mv (.t 0), none, 0⟩,
    ⟨(some 18), .len false (.t 17), none, 0⟩,
    ⟨(some 19), .bin .gtr (.t 16) (.t 18), none, 0⟩,
    ⟨(some 20), .mv (.t 19), none, 0⟩,
    ⟨(some 21), .mv (.t 2), (some (20, false)), 0⟩,
    ⟨(some 22), .mv (.t 0), (some (20, false)), 0⟩,
    ⟨(some 23), .len false (.t 22), (some (20, false)), 0⟩,
    ⟨(some 24), .mv (.t 1), (some (20, false)), 0⟩,
    ⟨(some 25), .bin .sub (.t 23) (.t 24), (some (20, false)), 0⟩,
    ⟨(some 26), .bin .gtr (.t 21) (.t 25), (some (20, false)), 0⟩,
    ⟨(some 27), .pick (.t 20) (.c (.p (.o (.bool true)))) (.t 26), none, 0⟩,
    ⟨(some 15), .mv (.t 27), none, 0⟩] 0 none) (.cond (.t 15) (.seq (.reg [
    ⟨(some 6), .mv (.c (.p (.o (.str ⟨#[]⟩)))), none, 0⟩,
    ⟨(some 7), .mv (.c (.p (.o (.int .i64 10)))), none, 0⟩] 0 none) .ret) .skip))))) (.seq (.reg [
    ⟨(some 28), .mv (.t 0), none, 0⟩,
    ⟨(some 29), .mv (.t 1), none, 0⟩,
    ⟨(some 30), .mv (.t 1), none, 0⟩,
    ⟨(some 31), .mv (.t 2), none, 0⟩,
    ⟨(some 32), .bin .add (.t 30) (.t 31), none, 0⟩,
    ⟨(some 33), .sls (.t 28) (some (.t 29)) (some (.t 32)), none, 0⟩,
    ⟨(some 6), .mv (.t 33), none, 0⟩,
    ⟨(some 7), .mv (.c (.p (.o (.int .i64 0)))), none, 0⟩] 0 none) .ret))),
  [.tmp 6, .tmp 7], 34, [0, 1, 2, 6, 7]⟩
theorem ok_word_Text : cFn Try.prog eqsT newsT vf_word_Text.keep Try.f95 = some vf_word_Text := by kernel_rfl
def tab14 : List (FuncId × VFn) := [(14, vf_law14_alive), (15, vf_icmp_Encode), (17, vf_icmp_Decode), (19, vf_icmp_Echo), (21, vf_icmp_Error), (23, vf_icmp_Quoted), (26, vf_ip4_Encode), (42, vf_law14_cut), (43, vf_law14_behind), (44, vf_word_Of), (49, vf_word_Four), (29, vf_ip4_Decode), (52, vf_icmp_Error_1), (54, vf_icmp_Error_2), (56, vf_icmp_Error_3), (57, vf_icmp_Error_4), (53, vf_icmp_bad), (60, vf_word_Two), (31, vf_ip4_May), (61, vf_ip4_whole), (62, vf_ip4_fits), (80, vf_word_read_uint32_), (66, vf_ip4_two), (67, vf_ip4_when), (68, vf_ip4_Decode_1), (55, vf_addr_Kind), (81, vf_slices_Contains___uint8_uint8_), (88, vf_word_read_uint16_), (95, vf_word_Text), (89, vf_ip4_when_1), (82, vf_addr_parts), (83, vf_addr_Kind_1), (84, vf_addr_Kind_2), (85, vf_addr_Kind_3), (86, vf_addr_Kind_4), (87, vf_addr_Kind_5), (96, vf_slices_Index___uint8_uint8_)]
theorem tab14_ok : TabOk Try.prog tab14 := ⟨fnOk_of known mix Try.func14 (by kernel_rfl) ok_law14_alive, fnOk_of known mix Try.func15 (by kernel_rfl) ok_icmp_Encode, fnOk_of known mix Try.func17 (by kernel_rfl) ok_icmp_Decode, fnOk_of known mix Try.func19 (by kernel_rfl) ok_icmp_Echo, fnOk_of known mix Try.func21 (by kernel_rfl) ok_icmp_Error, fnOk_of known mix Try.func23 (by kernel_rfl) ok_icmp_Quoted, fnOk_of known mix Try.func26 (by kernel_rfl) ok_ip4_Encode, fnOk_of known mix Try.func42 (by kernel_rfl) ok_law14_cut, fnOk_of known mix Try.func43 (by kernel_rfl) ok_law14_behind, fnOk_of known mix Try.func44 (by kernel_rfl) ok_word_Of, fnOk_of known mix Try.func49 (by kernel_rfl) ok_word_Four, fnOk_of known mix Try.func29 (by kernel_rfl) ok_ip4_Decode, fnOk_of known mix Try.func52 (by kernel_rfl) ok_icmp_Error_1, fnOk_of known mix Try.func54 (by kernel_rfl) ok_icmp_Error_2, fnOk_of known mix Try.func56 (by kernel_rfl) ok_icmp_Error_3, fnOk_of known mix Try.func57 (by kernel_rfl) ok_icmp_Error_4, fnOk_of known mix Try.func53 (by kernel_rfl) ok_icmp_bad, fnOk_of known mix Try.func60 (by kernel_rfl) ok_word_Two, fnOk_of known mix Try.func31 (by kernel_rfl) ok_ip4_May, fnOk_of known mix Try.func61 (by kernel_rfl) ok_ip4_whole, fnOk_of known mix Try.func62 (by kernel_rfl) ok_ip4_fits, fnOk_of known mix Try.func80 (by kernel_rfl) ok_word_read_uint32_, fnOk_of known mix Try.func66 (by kernel_rfl) ok_ip4_two, fnOk_of known mix Try.func67 (by kernel_rfl) ok_ip4_when, fnOk_of known mix Try.func68 (by kernel_rfl) ok_ip4_Decode_1, fnOk_of known mix Try.func55 (by kernel_rfl) ok_addr_Kind, fnOk_of known mix Try.func81 (by kernel_rfl) ok_slices_Contains___uint8_uint8_, fnOk_of known mix Try.func88 (by kernel_rfl) ok_word_read_uint16_, fnOk_of known mix Try.func95 (by kernel_rfl) ok_word_Text, fnOk_of known mix Try.func89 (by kernel_rfl) ok_ip4_when_1, fnOk_of known mix Try.func82 (by kernel_rfl) ok_addr_parts, fnOk_of known mix Try.func83 (by kernel_rfl) ok_addr_Kind_1, fnOk_of known mix Try.func84 (by kernel_rfl) ok_addr_Kind_2, fnOk_of known mix Try.func85 (by kernel_rfl) ok_addr_Kind_3, fnOk_of known mix Try.func86 (by kernel_rfl) ok_addr_Kind_4, fnOk_of known mix Try.func87 (by kernel_rfl) ok_addr_Kind_5, fnOk_of known mix Try.func96 (by kernel_rfl) ok_slices_Index___uint8_uint8_, trivial⟩
theorem alive14_det : Det Try.prog 14 [] [] (vB true) [] := execF_s tab14_ok base2_ok 40 _ _ _ _ _ (by kernel_rfl)
end G2
end Go.Proofs.Ytnmeeafnobfobaa.VM
