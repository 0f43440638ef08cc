/- law 16 by the evaluator: the laws TcpEnds, TcpOptions. -/
import Derived.Test.YtlpeefemffmpmaaV16f
namespace Go.Proofs.Ytlpeefemffmpmaa.VM
namespace L16
open Go.RowKit
set_option linter.unusedVariables false
set_option linter.unusedSimpArgs false
set_option maxRecDepth 100000
theorem opts_size2 (ms sc : Int) : ((opts ms sc).size : Int) = (if ms > 0 then 4 else 0) + (if sc ≥ 0 then 4 else 0) := by
  unfold opts; split <;> split <;> simp [ByteArray.size_append, size_lit, Sp.ofB_size]
theorem ends_short (x y : Int) (T : ByteArray) (k : Nat) (hk : k < T.size) (hT : hl16 T = T.size) (h20 : 20 ≤ T.size) : dec16e x y (T.extract 0 k) = 10 ∧ dec16 x y (T.extract 0 k) = seg 0 0 0 0 0 0 0 0 0 0 0 ⟨#[]⟩ := by
  have hz : (T.extract 0 k).size = k := by rw [ByteArray.size_extract]; omega
  have e : dec16e x y (T.extract 0 k) = 10 := by
    unfold dec16e
    rw [hz]
    by_cases c : k < 20
    · rw [if_pos c]
    · have hh : hl16 (T.extract 0 k) = T.size := by
        rw [← hT]; unfold hl16; rw [bAt_bt, bAt_bt, Sp.bt_extract _ _ _ _ (show 0 + Int.toNat 12 < k from show 0 + 12 < k by omega), Nat.zero_add]
      rw [if_neg c, hh, if_neg (by omega), if_pos (by omega)]
  exact ⟨e, dec_none _ _ _ (by rw [e]; decide)⟩
theorem sc_bd (sc : Int) : -1 ≤ min (max sc (-1)) 14 ∧ min (max sc (-1)) 14 ≤ 14 := by omega
theorem may2 (ms sc : Int) (h : -1 ≤ sc ∧ sc ≤ 14) : may 2 ms sc = true := by
  unfold may
  rw [decide_eq_true (by decide), decide_eq_true h.1, decide_eq_true h.2, show flag 2 2 = true by decide]; rfl
theorem ends_enc (ms sc : Int) (d : ByteArray) (hms : 0 ≤ ms ∧ ms ≤ 65535) (hsc : -1 ≤ sc ∧ sc ≤ 14) (hd : d.size ≤ 1000000) : Det Try.prog 36 [.a (seg 0 0 0 0 0 0 2 0 0 ms sc d)] [] (.t [.o (.str (enc16 0 0 0 0 0 0 2 0 0 ms sc d)), .o (.int .i64 (if (20 + (opts ms sc).size + d.size : Int) > 65515 then 4 else 0))]) [] := by
  have := enc_det 0 0 0 0 0 0 2 0 0 ms sc d (by omega) (by omega) (by omega) (by omega) (by omega) (by omega) (by omega) (by omega) (by omega) hms (by omega) hd
  unfold enc16e at this
  rwa [if_pos (may2 ms sc hsc)] at this
set_option maxHeartbeats 4000000 in
theorem ends_walk (ov ms sc at_ : Int) (ho : -128 ≤ ov ∧ ov ≤ 127) (hms : 0 ≤ ms ∧ ms ≤ 65535) (hsc : -128 ≤ sc ∧ sc ≤ 127) (ha : 0 ≤ at_ ∧ at_ ≤ 255) : Can Try.prog 13 [.o (.int .i8 ov), .o (.int .u16 ms), .o (.int .i8 sc), .o (.int .u8 at_)] [] (fun v _ => v = vB true) := by
  have hb := sc_bd sc
  generalize hS : min (max sc (-1)) 14 = S at *
  have hos := opts_size ms S
  have hos2 := opts_size2 ms S
  have ho4 : (opts ms S).size % 4 = 0 := by unfold opts; split <;> split <;> simp [ByteArray.size_append, size_lit, Sp.ofB_size]
  have E := ends_enc ms S ⟨#[]⟩ hms hb (Nat.zero_le _)
  have hsz : (ByteArray.mk #[]).size = 0 := rfl
  rw [if_neg (by omega)] at E
  have e1 : enc16 0 0 0 0 0 0 2 0 0 ms S ⟨#[]⟩ = raw16 0 0 0 0 0 0 2 0 0 (opts ms S) ⟨#[]⟩ := by unfold enc16; rw [if_pos (may2 ms S hb), if_neg (by omega)]
  rw [e1] at E
  have hz := raw16_size 0 0 0 0 0 0 2 0 0 (opts ms S) ⟨#[]⟩
  have hl := (says16 0 0 0 0 0 0 2 0 0 (opts ms S) ⟨#[]⟩ (by omega) (by omega) (by omega) (by omega) (by omega) (by omega) (by omega) (by omega) ho4).hl
  generalize raw16 0 0 0 0 0 0 2 0 0 (opts ms S) ⟨#[]⟩ = T at *
  have D : ∀ k : Nat, k < T.size → Det Try.prog 38 [.o (.int .u32 0), .o (.int .u32 0), .o (.str (T.extract (Int.toNat 0) k))] [] (.t [.a (seg 0 0 0 0 0 0 0 0 0 0 0 ⟨#[]⟩), .o (.int .i64 10)]) [] := fun k hk => by
    obtain ⟨g1, g2⟩ := ends_short 0 0 T k hk (by omega) (by omega)
    have := tdec_det 0 0 (T.extract 0 k) (by rw [ByteArray.size_extract]; omega) (by omega) (by omega)
    rw [g1, g2] at this
    exact this
  have E2 : ∀ n : Nat, n ≤ 1000000 → Det Try.prog 36 [.a (seg 0 0 0 0 0 0 2 0 0 ms S ⟨(List.replicate n 0).toArray⟩)] [] (.t [.o (.str (enc16 0 0 0 0 0 0 2 0 0 ms S ⟨(List.replicate n 0).toArray⟩)), .o (.int .i64 (if (20 + (opts ms S).size + n : Int) > 65515 then 4 else 0))]) [] := fun n hn => by
    have := ends_enc ms S ⟨(List.replicate n 0).toArray⟩ hms hb (by rw [size_lit]; simp; exact hn)
    rwa [show (ByteArray.mk (List.replicate n 0).toArray).size = n by rw [size_lit]; simp] at this
  have E2a : ∀ n : Nat, (20 + (opts ms S).size + n : Int) ≤ 65515 → Det Try.prog 36 [.a (seg 0 0 0 0 0 0 2 0 0 ms S ⟨(List.replicate n 0).toArray⟩)] [] (.t [.o (.str (enc16 0 0 0 0 0 0 2 0 0 ms S ⟨(List.replicate n 0).toArray⟩)), .o (.int .i64 0)]) [] := fun n hn => by
    have := E2 n (by omega)
    rwa [if_neg (by omega)] at this
  have E2b : ∀ n : Nat, n ≤ 1000000 → 65515 < (20 + (opts ms S).size + n : Int) → Det Try.prog 36 [.a (seg 0 0 0 0 0 0 2 0 0 ms S ⟨(List.replicate n 0).toArray⟩)] [] (.t [.o (.str (enc16 0 0 0 0 0 0 2 0 0 ms S ⟨(List.replicate n 0).toArray⟩)), .o (.int .i64 4)]) [] := fun n hn hn2 => by
    have := E2 n (by omega)
    rwa [if_pos (by omega)] at this
  clear E2
  have hm : ∀ m : Int, 0 < m → 0 ≤ at_.tmod m ∧ at_.tmod m < m := fun m hm => ⟨Int.tmod_nonneg _ ha.1, Int.tmod_lt_of_pos _ hm⟩
  have hm1 := hm (max T.size 1) (by omega)
  by_cases c0 : ov ≤ 0 <;> by_cases c1 : ms > 0 <;> by_cases c2 : S ≥ 0 <;> (simp only [c1, c2, if_true, if_false] at hos2)
  all_goals subst hS
  all_goals refine can_of_W known mix Try.func13 (by kernel_rfl) ok_law16_TcpEnds (Nat.le_of_ble_eq_true rfl) ?_
  all_goals repeat' ((conv => whnf); first
    | ((with_reducible refine Look.mk ?_); refine ⟨_, rfl, ?_⟩)
    | ((with_reducible refine LookN.zeros ?_))
    | ((with_reducible refine LookN.bytes ?_ ?_); (simp; done))
    | ((with_reducible refine BytesW.bytes ?_))
    | ((with_reducible refine Look.byte ?_ ?_); omega)
    | ((with_reducible refine Look.setb ?_ ?_ ?_); exact bv8_bd _; omega)
    | ((with_reducible refine LookN.setb ?_ ?_ ?_); exact bv8_bd _; omega)
    | ((with_reducible refine LookN.mk ?_); refine ⟨_, rfl, ?_⟩)
    | ((with_reducible refine Need.mk ?_ ?_); first | ((with_reducible refine needB ?_); kernel_rfl) | exact rfl | trivial | omega | exact Nat.le_of_ble_eq_true rfl | (exact ⟨rfl, by omega⟩) | (intro h; first | rfl | cases h) | (simp only [lenS_text, lenS_setN, lenS_zeros]; omega) | (simp only [ByteArray.size_append, size_lit, List.size_toArray, List.length_cons, List.length_nil, Sp.ofB_size, Sp.headB_size, ByteArray.size_extract]; omega))
    | ((with_reducible refine BytesW.mk ?_); refine ⟨_, rfl, ?_⟩)
    | (with_reducible refine CallW.det (E) ?_)
    | (with_reducible refine CallW.det (D _ (by omega)) ?_)
    | (with_reducible refine CallW.det (E2a _ (by omega)) ?_)
    | (with_reducible refine CallW.det (E2b _ (by omega) (by omega)) ?_)
    | (with_reducible refine CallW.det (alive_det) ?_)
    | ((with_reducible refine Test.empty (fun h => ?_) (fun h => ?_)))
    | (with_reducible refine Test.tt ?_)
    | (with_reducible refine Test.ff ?_)
    | ((with_reducible refine Test.dt ?_ ?_); omega)
    | ((with_reducible refine Test.df ?_ ?_); omega)
    | (with_reducible refine Test.d (fun h => ?_) (fun h => ?_))
    | ((with_reducible refine Test.ieT ?_ ?_); omega)
    | ((with_reducible refine Test.ieF ?_ ?_); omega)
    | ((with_reducible refine Test.neT ?_ ?_); omega)
    | ((with_reducible refine Test.neF ?_ ?_); omega)
    | (with_reducible refine Test.ie (fun h => ?_) (fun h => ?_))
    | (with_reducible refine Test.ne (fun h => ?_) (fun h => ?_))
    | ((with_reducible refine Test.b ?_ ?_); (focus first | assumption | (simp [negB]; done) | exact rfl | (simp [negB, c0]; done)))
    | ((with_reducible refine Test.nb ?_ ?_); (focus first | assumption | (simp [negB]; done) | exact rfl | (simp [negB, c0]; done)))
    | (with_reducible refine Test.mk (fun h => ?_) (fun h => ?_))
    | (with_reducible refine Arith.bv8 ?_)
    | (with_reducible refine Arith.bv16 ?_)
    | (with_reducible refine Arith.bv32 ?_)
    | (with_reducible refine Arith.bv64 ?_)
    | ((with_reducible refine Arith.i64 ?_ ?_); omega)
    | ((with_reducible refine Arith.u64 ?_ ?_); omega)
    | ((with_reducible refine Arith.u32 ?_ ?_); omega)
    | ((with_reducible refine Arith.u16 ?_ ?_); omega)
    | ((with_reducible refine Arith.u8 ?_ ?_); omega)
    | ((with_reducible refine Arith.i32 ?_ ?_); omega)
    | ((with_reducible refine Arith.i64 ?_ ?_); simp (discharger := omega) only [Int.tdiv_eq_ediv_of_nonneg, shr_u8_4, shl_u8_4, shr_u16_4, shl_u16_4, shr_u16_8, shl_u16_8, shr_u32_4, shl_u32_4, shr_u32_8, shl_u32_8, shr_u32_16, shl_u32_16, shr_u32_24, shl_u32_24, shr_u64_4, shl_u64_4, shr_u64_8, shl_u64_8, shr_u64_16, shl_u64_16, shr_u64_24, shl_u64_24, shr_u64_40, shl_u64_40, shr_i64_4, shl_i64_4, shr_i64_8, shl_i64_8, shr_i64_16, shl_i64_16, shr_i64_24, shl_i64_24, shr_i64_40, shl_i64_40]; omega)
    | ((with_reducible refine Arith.u64 ?_ ?_); simp (discharger := omega) only [Int.tdiv_eq_ediv_of_nonneg, shr_u8_4, shl_u8_4, shr_u16_4, shl_u16_4, shr_u16_8, shl_u16_8, shr_u32_4, shl_u32_4, shr_u32_8, shl_u32_8, shr_u32_16, shl_u32_16, shr_u32_24, shl_u32_24, shr_u64_4, shl_u64_4, shr_u64_8, shl_u64_8, shr_u64_16, shl_u64_16, shr_u64_24, shl_u64_24, shr_u64_40, shl_u64_40, shr_i64_4, shl_i64_4, shr_i64_8, shl_i64_8, shr_i64_16, shl_i64_16, shr_i64_24, shl_i64_24, shr_i64_40, shl_i64_40]; omega)
    | ((with_reducible refine Arith.u32 ?_ ?_); simp (discharger := omega) only [Int.tdiv_eq_ediv_of_nonneg, shr_u8_4, shl_u8_4, shr_u16_4, shl_u16_4, shr_u16_8, shl_u16_8, shr_u32_4, shl_u32_4, shr_u32_8, shl_u32_8, shr_u32_16, shl_u32_16, shr_u32_24, shl_u32_24, shr_u64_4, shl_u64_4, shr_u64_8, shl_u64_8, shr_u64_16, shl_u64_16, shr_u64_24, shl_u64_24, shr_u64_40, shl_u64_40, shr_i64_4, shl_i64_4, shr_i64_8, shl_i64_8, shr_i64_16, shl_i64_16, shr_i64_24, shl_i64_24, shr_i64_40, shl_i64_40]; omega)
    | ((with_reducible refine Arith.u16 ?_ ?_); simp (discharger := omega) only [Int.tdiv_eq_ediv_of_nonneg, shr_u8_4, shl_u8_4, shr_u16_4, shl_u16_4, shr_u16_8, shl_u16_8, shr_u32_4, shl_u32_4, shr_u32_8, shl_u32_8, shr_u32_16, shl_u32_16, shr_u32_24, shl_u32_24, shr_u64_4, shl_u64_4, shr_u64_8, shl_u64_8, shr_u64_16, shl_u64_16, shr_u64_24, shl_u64_24, shr_u64_40, shl_u64_40, shr_i64_4, shl_i64_4, shr_i64_8, shl_i64_8, shr_i64_16, shl_i64_16, shr_i64_24, shl_i64_24, shr_i64_40, shl_i64_40]; omega)
    | ((with_reducible refine Arith.u8 ?_ ?_); simp (discharger := omega) only [Int.tdiv_eq_ediv_of_nonneg, shr_u8_4, shl_u8_4, shr_u16_4, shl_u16_4, shr_u16_8, shl_u16_8, shr_u32_4, shl_u32_4, shr_u32_8, shl_u32_8, shr_u32_16, shl_u32_16, shr_u32_24, shl_u32_24, shr_u64_4, shl_u64_4, shr_u64_8, shl_u64_8, shr_u64_16, shl_u64_16, shr_u64_24, shl_u64_24, shr_u64_40, shl_u64_40, shr_i64_4, shl_i64_4, shr_i64_8, shl_i64_8, shr_i64_16, shl_i64_16, shr_i64_24, shl_i64_24, shr_i64_40, shl_i64_40]; omega)
    | (with_reducible refine Arith.mk ?_)
    | (with_reducible refine Ends.mk ?_))
  all_goals rfl
theorem ends_row (ov ms sc at_ : Int) (w : World) (ho : -128 ≤ ov ∧ ov ≤ 127) (hms : 0 ≤ ms ∧ ms ≤ 65535) (hsc : -128 ≤ sc ∧ sc ≤ 127) (ha : 0 ≤ at_ ∧ at_ ≤ 255) :
    Calls Try.prog 13 #[.int .i8 ov, .int .u16 ms, .int .i8 sc, .int .u8 at_] w fun e w' => e = .returned (.bool true) ∧ Below w.heap.size w w' := calls_of_can (ends_walk ov ms sc at_ ho hms hsc ha) rfl rfl w
end L16
end Go.Proofs.Ytlpeefemffmpmaa.VM
