/- law 07 by the evaluator: the text of an address. -/
import Derived.Test.YtnikpanebkknfaaDoorV07a
namespace Go.Proofs.YtnikpanebkknfaaDoor.VM
namespace G4
open Go.RowKit
set_option linter.unusedVariables false
set_option linter.unusedSimpArgs false
set_option maxRecDepth 100000
variable {G : Ground}
def vf_ether_parts : VFn := ⟨(.seq (.reg [
    ⟨(some 1), .box (.t 0), none, 0⟩,
    ⟨(some 2), .mv (.c (.p (.o (.nilfn)))), none, 1⟩] 1 none) (.seq (.reg [
    ⟨(some 3), .mkf 80 [(.t 1)], none, 0⟩,
    ⟨(some 2), .mv (.t 3), none, 0⟩] 0 none) .ret)),
  [.tmp 2], 4, [0, 1, 2]⟩
theorem ok_ether_parts : cFn Tryd.prog eqsT newsT vf_ether_parts.keep Tryd.f64 = some vf_ether_parts := by kernel_rfl
def vf_ether_parts_1 : VFn := ⟨(.seq (.reg [
    ⟨(some 3), .mv (.c (.p (.o (.int .i64 40)))), none, 0⟩] 0 none) (.block 0 (.loop (.seq (.seq (.reg [
    ⟨(some 4), .mv (.t 3), none, 0⟩,
    ⟨(some 5), .bin .geq (.t 4) (.c (.p (.o (.int .i64 0)))), none, 0⟩,
    ⟨(some 6), .mv (.t 5), none, 0⟩,
    ⟨(some 7), .mv (.t 0), (some (6, true)), 0⟩,
    ⟨(some 8), .ld none (.t 1), (some (6, true)), 0⟩,
    ⟨(some 9), .mv (.t 3), (some (6, true)), 0⟩,
    ⟨(some 10), .bin .shr (.t 8) (.t 9), (some (6, true)), 0⟩,
    ⟨(some 11), .cvi .u8 (.t 10), (some (6, true)), 0⟩,
    ⟨(some 12), .callv (.t 7) [(.t 11)] 2, (some (6, true)), 0⟩,
    ⟨(some 13), .pick (.t 6) (.t 12) (.c (.p (.o (.bool false)))), none, 2⟩] 2 none) (.cond (.t 13) .skip (.exit 0))) (.seq (.block 1 .skip) (.reg [
    ⟨(some 14), .mv (.t 3), none, 0⟩,
    ⟨(some 15), .bin .sub (.t 14) (.c (.p (.o (.int .i64 8)))), none, 0⟩,
    ⟨(some 3), .mv (.t 15), none, 0⟩] 0 none)))))),
  [], 16, [0, 1, 3]⟩
theorem ok_ether_parts_1 : cFn Tryd.prog eqsT newsT vf_ether_parts_1.keep Tryd.f80 = some vf_ether_parts_1 := by kernel_rfl
def vf_ether_Text : VFn := ⟨(.seq (.reg [
    ⟨(some 2), .mv (.c (.p (.o (.str ⟨#[]⟩)))), none, 0⟩] 0 none) (.seq (.reg [
    ⟨(some 3), .new [.nils], none, 0⟩] 1 none) (.seq (.seq (.reg [
    ⟨(some 5), .mv (.t 0), none, 0⟩,
    ⟨(some 6), .call 64 [(.t 5)] 1, none, 0⟩] 1 none) (.block 0 (.rangeF (.t 6) [7] (.reg [
    ⟨(some 4), .mv (.t 7), none, 0⟩] 0 none) (.block 1 (.reg [
    ⟨(some 8), .ld none (.t 3), none, 0⟩,
    ⟨(some 9), .mv (.t 4), none, 0⟩,
    ⟨(some 10), .cvi .u64 (.t 9), none, 0⟩,
    ⟨(some 11), .bin .or (.t 10) (.c (.p (.o (.int .u64 256)))), none, 0⟩,
    ⟨(some 12), .call 65 [(.t 11), (.c (.p (.o (.int .i64 16))))] 0, none, 0⟩,
    ⟨(some 13), .sls (.t 12) (some (.c (.p (.o (.int .i64 1))))) none, none, 0⟩,
    ⟨(some 14), .bsl 1 [.str ⟨#[]⟩] [(0, 1, (.t 13))], none, 0⟩,
    ⟨(some 15), .app 1 16 (.t 8) (.t 14), none, 1⟩,
    ⟨none, .st 1 (.t 3) (.t 15), none, 2⟩] 2 (some [(0, 1), (0, 2), (0, 3), (0, 4), (0, 5), (0, 6)])))))) (.seq (.reg [
    ⟨(some 16), .ld none (.t 3), none, 0⟩,
    ⟨(some 17), .call 52 [(.t 16), (.c (.p (.o (.str ⟨#[58]⟩))))] 0, none, 0⟩,
    ⟨(some 2), .mv (.t 17), none, 0⟩] 0 none) .ret)))),
  [.tmp 2], 18, [0, 2, 3, 4, 6, 7]⟩
theorem ok_ether_Text : cFn Tryd.prog eqsT newsT vf_ether_Text.keep Tryd.f38 = some vf_ether_Text := by kernel_rfl
theorem Arith.m8' {a : Int} {K : Int → Prop} (g : K (a % 256)) : Arith .u8 a K := ⟨by rw [IntKind.wrap_u8]; exact g⟩
theorem or256 : ∀ c : _root_.Fin 256, ((BitVec.ofInt IntKind.u64.bits (c.val : Int) ||| BitVec.ofInt IntKind.u64.bits 256).toNat : Int) = c.val + 256 := by decide +kernel
theorem Arith.or256 {a : Int} {K : Int → Prop} (h : 0 ≤ a ∧ a ≤ 255) (g : K (a + 256)) : Arith .u64 ((BitVec.ofInt IntKind.u64.bits a ||| BitVec.ofInt IntKind.u64.bits 256).toNat : Int) K := by
  obtain ⟨k, rfl⟩ := Int.eq_ofNat_of_zero_le h.1
  have e := G4.or256 ⟨k, by omega⟩
  simp only [] at e
  rw [e]; exact .u64 (by omega) g
def colB : ByteArray := ⟨#[58]⟩
theorem join6 (a b c d e f : ByteArray) : joinB [a, b, c, d, e, f] colB = a ++ colB ++ b ++ colB ++ c ++ colB ++ d ++ colB ++ e ++ colB ++ f := by
  apply ByteArray.ext; apply Array.ext'
  simp [joinB, Lib.join, List.intercalate]
theorem join6_det (a b c d e f : ByteArray) (r s : Bool) (cc : Cap) (h : a.size + b.size + c.size + d.size + e.size + f.size ≤ 1000000) : Det G Tryd.prog 52 [.o (.slc 0 0 (1 + 1 + 1 + 1 + 1 + 1) cc), .o (.str ⟨#[58]⟩)] [.row r s [.str a, .str b, .str c, .str d, .str e, .str f]] (vS (joinB [a, b, c, d, e, f] colB)) [.row r s [.str a, .str b, .str c, .str d, .str e, .str f]] :=
  join_det [a, b, c, d, e, f] colB r s cc (1 + 1 + 1 + 1 + 1 + 1) rfl (by omega) (by rw [join6]; simp only [ByteArray.size_append, show colB.size = 1 from rfl]; omega)
/-- Two digits. -/
def hx (c : Int) : ByteArray := (hex3 (c + 256)).extract 1 3
def macB (m : Int) : ByteArray := joinB [hx (m / 1099511627776 % 256), hx (m / 4294967296 % 256), hx (m / 16777216 % 256), hx (m / 65536 % 256), hx (m / 256 % 256), hx (m % 256)] colB
theorem hex3_size (n : Int) : (hex3 n).size = 3 := rfl
set_option maxHeartbeats 4000000 in
theorem mtext_det (h7 : 8 ≤ G.n) (htz : G.w0.cell? ⟨7, 15, none⟩ = some (.int .u8 4)) (m : Int) (hm : 0 ≤ m ∧ m ≤ 18446744073709551615) : Det G Tryd.prog 38 [.o (.int .u64 m)] [] (vS (macB m)) [] := by
  refine can_of_W known mix Tryd.func38 (by kernel_rfl) ok_ether_Text (Nat.le_of_ble_eq_true rfl) ?_
  repeat' ((conv => whnf); first
    | ((with_reducible refine Look.mk ?_); refine ⟨_, rfl, ?_⟩)
    | ((with_reducible refine LookN.zeros ?_))
    | ((with_reducible refine LookN.bytes ?_ ?_); (simp; done))
    | ((with_reducible refine BytesW.bytes ?_))
    | ((with_reducible refine Look.byte ?_ ?_); omega)
    | ((with_reducible refine Look.setb ?_ ?_ ?_); exact bv8_bd _; omega)
    | ((with_reducible refine LookN.setb ?_ ?_ ?_); exact bv8_bd _; omega)
    | ((with_reducible refine LookN.mk ?_); refine ⟨_, rfl, ?_⟩)
    | ((with_reducible refine Need.mk ?_ ?_); first | ((with_reducible refine needB ?_); kernel_rfl) | with_reducible rfl | omega | (with_reducible refine ⟨rfl, ?_⟩; focus omega) | (simp only [ByteArray.size_append, size_lit, List.size_toArray, List.length_cons, List.length_nil, hex3_size, ByteArray.size_extract]; omega) | exact rfl | trivial | exact Nat.le_of_ble_eq_true rfl | (exact ⟨rfl, by omega⟩) | (intro h; first | rfl | cases h) | (simp only [lenS_text, lenS_setN, lenS_zeros]; omega))
    | ((with_reducible refine BytesW.mk ?_); refine ⟨_, rfl, ?_⟩)
    | (with_reducible refine CallW.det (fmt_det h7 htz _ (by omega)) ?_)
    | (with_reducible refine CallW.det (join6_det _ _ _ _ _ _ _ _ _ (by simp only [ByteArray.size_extract, hex3_size]; omega)) ?_)
    | ((with_reducible refine WrT.same ?_ ?_); focus (repeat (first | exact trivial | ((conv => whnf); refine ⟨rfl, ?_⟩))))
    | (with_reducible refine WrT.all ?_)
    | ((with_reducible refine Arith.or256 ?_ ?_); omega)
    | (with_reducible refine YldW.mk ⟨_, ycan_of_W known mix ?_, (fun _ _ h => h)⟩)
    | (with_reducible refine LoopW.unroll (fun X hX => ?_))
    | (refine hX _ _ ?_)
    | (with_reducible refine CallW.can (can_of_W known mix Tryd.func64 (by kernel_rfl) ok_ether_parts (Nat.le_of_ble_eq_true rfl) ?_) (fun _ _ h => h))
    | (with_reducible refine CallW.can (can_of_W known mix Tryd.func80 (by kernel_rfl) ok_ether_parts_1 (Nat.le_of_ble_eq_true rfl) ?_) (fun _ _ h => h))
    | ((with_reducible refine Test.tmodEqT ?_ ?_ ?_); omega; focus first | omega | assumption)
    | ((with_reducible refine Test.tmodEqF ?_ ?_ ?_); omega; focus first | omega | assumption)
    | ((with_reducible refine Test.tmodNeT ?_ ?_ ?_); omega; focus first | omega | assumption)
    | ((with_reducible refine Test.tmodNeF ?_ ?_ ?_); omega; focus first | omega | assumption)
    | ((with_reducible refine Test.tmodEq ?_ (fun h => ?_) (fun h => ?_)); omega)
    | ((with_reducible refine Test.tmodNe ?_ (fun h => ?_) (fun h => ?_)); omega)
    | ((with_reducible refine Test.notT ?_ ?_); focus assumption)
    | ((with_reducible refine Test.notF ?_ ?_); focus assumption)
    | (with_reducible refine Test.notIe (fun h => ?_) (fun h => ?_))
    | (with_reducible refine Test.notD (fun h => ?_) (fun h => ?_))
    | ((with_reducible refine Test.empty (fun h => ?_) (fun h => ?_)))
    | (with_reducible refine Test.tt ?_)
    | (with_reducible refine Test.ff ?_)
    | ((with_reducible refine Test.dt ?_ ?_); omega)
    | ((with_reducible refine Test.df ?_ ?_); omega)
    | (with_reducible refine Test.d (fun h => ?_) (fun h => ?_))
    | ((with_reducible refine Test.ieT ?_ ?_); omega)
    | ((with_reducible refine Test.ieF ?_ ?_); omega)
    | ((with_reducible refine Test.neT ?_ ?_); omega)
    | ((with_reducible refine Test.neF ?_ ?_); omega)
    | (with_reducible refine Test.ie (fun h => ?_) (fun h => ?_))
    | (with_reducible refine Test.ne (fun h => ?_) (fun h => ?_))
    | ((with_reducible refine Test.b ?_ ?_); (focus first | assumption | (simp [negB]; done) | exact rfl))
    | ((with_reducible refine Test.nb ?_ ?_); (focus first | assumption | (simp [negB]; done) | exact rfl))
    | (with_reducible refine Test.notS (fun h => ?_) (fun h => ?_))
    | (with_reducible refine Test.mk (fun h => ?_) (fun h => ?_))
    | ((with_reducible refine Arith.tdiv ?_ ?_); omega)
    | (with_reducible refine Arith.bv8 ?_)
    | (with_reducible refine Arith.bv16 ?_)
    | (with_reducible refine Arith.bv32 ?_)
    | (with_reducible refine Arith.bv64 ?_)
    | ((with_reducible refine Arith.i64 ?_ ?_); omega)
    | ((with_reducible refine Arith.u64 ?_ ?_); omega)
    | ((with_reducible refine Arith.u32 ?_ ?_); omega)
    | ((with_reducible refine Arith.u16 ?_ ?_); omega)
    | ((with_reducible refine Arith.u8 ?_ ?_); omega)
    | ((with_reducible refine Arith.i32 ?_ ?_); omega)
    | ((with_reducible refine Arith.i64 ?_ ?_); simp (discharger := omega) only [Int.tdiv_eq_ediv_of_nonneg, shr_u8_4, shl_u8_4, shr_u16_4, shl_u16_4, shr_u16_8, shl_u16_8, shr_u32_4, shl_u32_4, shr_u32_8, shl_u32_8, shr_u32_16, shl_u32_16, shr_u32_24, shl_u32_24, shr_u64_4, shl_u64_4, shr_u64_8, shl_u64_8, shr_u64_16, shl_u64_16, shr_u64_24, shl_u64_24, shr_u64_40, shl_u64_40, shr_i64_4, shl_i64_4, shr_i64_8, shl_i64_8, shr_i64_16, shl_i64_16, shr_i64_24, shl_i64_24, shr_i64_40, shl_i64_40]; omega)
    | ((with_reducible refine Arith.u64 ?_ ?_); simp (discharger := omega) only [Int.tdiv_eq_ediv_of_nonneg, shr_u8_4, shl_u8_4, shr_u16_4, shl_u16_4, shr_u16_8, shl_u16_8, shr_u32_4, shl_u32_4, shr_u32_8, shl_u32_8, shr_u32_16, shl_u32_16, shr_u32_24, shl_u32_24, shr_u64_4, shl_u64_4, shr_u64_8, shl_u64_8, shr_u64_16, shl_u64_16, shr_u64_24, shl_u64_24, shr_u64_40, shl_u64_40, shr_i64_4, shl_i64_4, shr_i64_8, shl_i64_8, shr_i64_16, shl_i64_16, shr_i64_24, shl_i64_24, shr_i64_40, shl_i64_40]; omega)
    | ((with_reducible refine Arith.u32 ?_ ?_); simp (discharger := omega) only [Int.tdiv_eq_ediv_of_nonneg, shr_u8_4, shl_u8_4, shr_u16_4, shl_u16_4, shr_u16_8, shl_u16_8, shr_u32_4, shl_u32_4, shr_u32_8, shl_u32_8, shr_u32_16, shl_u32_16, shr_u32_24, shl_u32_24, shr_u64_4, shl_u64_4, shr_u64_8, shl_u64_8, shr_u64_16, shl_u64_16, shr_u64_24, shl_u64_24, shr_u64_40, shl_u64_40, shr_i64_4, shl_i64_4, shr_i64_8, shl_i64_8, shr_i64_16, shl_i64_16, shr_i64_24, shl_i64_24, shr_i64_40, shl_i64_40]; omega)
    | ((with_reducible refine Arith.u16 ?_ ?_); simp (discharger := omega) only [Int.tdiv_eq_ediv_of_nonneg, shr_u8_4, shl_u8_4, shr_u16_4, shl_u16_4, shr_u16_8, shl_u16_8, shr_u32_4, shl_u32_4, shr_u32_8, shl_u32_8, shr_u32_16, shl_u32_16, shr_u32_24, shl_u32_24, shr_u64_4, shl_u64_4, shr_u64_8, shl_u64_8, shr_u64_16, shl_u64_16, shr_u64_24, shl_u64_24, shr_u64_40, shl_u64_40, shr_i64_4, shl_i64_4, shr_i64_8, shl_i64_8, shr_i64_16, shl_i64_16, shr_i64_24, shl_i64_24, shr_i64_40, shl_i64_40]; omega)
    | ((with_reducible refine Arith.u8 ?_ ?_); simp (discharger := omega) only [Int.tdiv_eq_ediv_of_nonneg, shr_u8_4, shl_u8_4, shr_u16_4, shl_u16_4, shr_u16_8, shl_u16_8, shr_u32_4, shl_u32_4, shr_u32_8, shl_u32_8, shr_u32_16, shl_u32_16, shr_u32_24, shl_u32_24, shr_u64_4, shl_u64_4, shr_u64_8, shl_u64_8, shr_u64_16, shl_u64_16, shr_u64_24, shl_u64_24, shr_u64_40, shl_u64_40, shr_i64_4, shl_i64_4, shr_i64_8, shl_i64_8, shr_i64_16, shl_i64_16, shr_i64_24, shl_i64_24, shr_i64_40, shl_i64_40]; omega)
    | (with_reducible refine Arith.m8' ?_)
    | (with_reducible refine Arith.mk ?_)
    | (with_reducible refine Ends.mk ?_))
  have e40 : m.fdiv (2 ^ min (Int.toNat 40) IntKind.u64.bits) = m / 1099511627776 := shr_u64_40 m
  have e32 : m.fdiv (2 ^ min (40 - 8 : Int).toNat IntKind.u64.bits) = m / 4294967296 := shr_u64_32 m
  have e24 : m.fdiv (2 ^ min (40 - 8 - 8 : Int).toNat IntKind.u64.bits) = m / 16777216 := shr_u64_24 m
  have e16 : m.fdiv (2 ^ min (40 - 8 - 8 - 8 : Int).toNat IntKind.u64.bits) = m / 65536 := shr_u64_16 m
  have e8 : m.fdiv (2 ^ min (40 - 8 - 8 - 8 - 8 : Int).toNat IntKind.u64.bits) = m / 256 := shr_u64_8 m
  have e0 : m.fdiv (2 ^ min (40 - 8 - 8 - 8 - 8 - 8 : Int).toNat IntKind.u64.bits) = m := by show m.fdiv (2 ^ 0) = m; rw [Int.fdiv_eq_ediv_of_nonneg _ (by decide)]; simp
  all_goals refine ⟨?_, rfl⟩
  all_goals first
    | (rw [e40, e32, e24, e16, e8, e0]; rfl)
end G4
end Go.Proofs.YtnikpanebkknfaaDoor.VM
