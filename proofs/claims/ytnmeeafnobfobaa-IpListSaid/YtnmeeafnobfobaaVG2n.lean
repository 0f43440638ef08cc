/- the numbers at a place, for the laws 10 and 14. -/
import Derived.Test.YtnmeeafnobfobaaVBx
import Derived.Test.YtnmeeafnobfobaaVBf
import Derived.Test.YtnmeeafnobfobaaVBr
import Derived.Test.YtnmeeafnobfobaaVmS
import Derived.Test.YtnmeeafnobfobaaSumQ
import Derived.Test.YtnmeeafnobfobaaRows
namespace Go.Proofs.Ytnmeeafnobfobaa.VM
namespace G2
open Go.RowKit
set_option linter.unusedVariables false
set_option linter.unusedSimpArgs false
set_option maxRecDepth 100000
def eqsT : List Nat := [24, 41, 91]
def newsT (f : Nat) : Nat := (if f = 40 then 1 else (if f = 39 then 1 else (if f = 67 then 2 else 0)))
theorem known : Known Try.prog eqsT := known_of (by kernel_rfl)
theorem mix : Try.prog.follows .mixedOrders = true := by kernel_rfl
def vf_ref01_Num : VFn := ⟨(.seq (.reg [
    ⟨(some 6), .mv (.c (.p (.o (.int .u64 0)))), none, 0⟩,
    ⟨(some 7), .mv (.c (.p (.o (.int .i64 0)))), none, 0⟩] 0 none) (.seq (.seq (.reg [
    ⟨(some 10), .mv (.t 1), none, 0⟩,
    ⟨(some 11), .bin .lss (.t 10) (.c (.p (.o (.int .i64 0)))), none, 0⟩,
    ⟨(some 12), .mv (.t 11), none, 0⟩,
    ⟨(some 13), .mv (.t 2), (some (12, false)), 0⟩,
    ⟨(some 14), .bin .lss (.t 13) (.c (.p (.o (.int .i64 0)))), (some (12, false)), 0⟩,
    ⟨(some 15), .pick (.t 12) (.c (.p (.o (.bool true)))) (.t 14), none, 0⟩] 0 none) (.cond (.t 15) (.seq (.reg [
    ⟨(some 6), .mv (.c (.p (.o (.int .u64 0)))), none, 0⟩,
    ⟨(some 7), .mv (.c (.p (.o (.int .i64 2)))), none, 0⟩] 0 none) .ret) .skip)) (.seq (.seq (.reg [
    ⟨(some 16), .mv (.t 1), none, 0⟩,
    ⟨(some 17), .mv (.t 0), none, 0⟩,
    ⟨(some 18), .len false (.t 17), none, 0⟩,
    ⟨(some 19), .bin .gtr (.t 16) (.t 18), none, 0⟩,
    ⟨(some 20), .mv (.t 19), none, 0⟩,
    ⟨(some 21), .mv (.t 0), (some (20, false)), 0⟩,
    ⟨(some 22), .len false (.t 21), (some (20, false)), 0⟩,
    ⟨(some 23), .mv (.t 1), (some (20, false)), 0⟩,
    ⟨(some 24), .bin .sub (.t 22) (.t 23), (some (20, false)), 0⟩,
    ⟨(some 25), .mv (.t 2), (some (20, false)), 0⟩,
    ⟨(some 26), .bin .lss (.t 24) (.t 25), (some (20, false)), 0⟩,
    ⟨(some 27), .pick (.t 20) (.c (.p (.o (.bool true)))) (.t 26), none, 0⟩] 0 none) (.cond (.t 27) (.seq (.reg [
    ⟨(some 6), .mv (.c (.p (.o (.int .u64 0)))), none, 0⟩,
    ⟨(some 7), .mv (.c (.p (.o (.int .i64 10)))), none, 0⟩] 0 none) .ret) .skip)) (.seq (.reg [
    ⟨(some 8), .mv (.c (.p (.o (.int .u64 0)))), none, 0⟩] 0 none) (.seq (.seq (.reg [
    ⟨(some 9), .mv (.c (.p (.o (.int .i64 0)))), none, 0⟩] 0 none) (.block 0 (.loop (.seq (.seq (.reg [
    ⟨(some 28), .mv (.t 9), none, 0⟩,
    ⟨(some 29), .mv (.t 2), none, 0⟩,
    ⟨(some 30), .bin .lss (.t 28) (.t 29), none, 0⟩] 0 none) (.cond (.t 30) .skip (.exit 0))) (.seq (.block 1 (.reg [
    ⟨(some 33), .mv (.t 8), none, 0⟩,
    ⟨(some 34), .bin .mul (.c (.p (.o (.int .u64 256)))) (.t 33), none, 0⟩,
    ⟨(some 35), .mv (.t 0), none, 0⟩,
    ⟨(some 36), .mv (.t 1), none, 0⟩,
    ⟨(some 37), .mv (.t 9), none, 0⟩,
    ⟨(some 38), .bin .add (.t 36) (.t 37), none, 0⟩,
    ⟨(some 39), .ixs (.t 35) (.t 38), none, 0⟩,
    ⟨(some 40), .cvi .u64 (.t 39), none, 0⟩,
    ⟨(some 41), .bin .add (.t 34) (.t 40), none, 0⟩,
    ⟨(some 8), .mv (.t 41), none, 0⟩] 0 none)) (.reg [
    ⟨(some 31), .mv (.t 9), none, 0⟩,
    ⟨(some 32), .bin .add (.t 31) (.c (.p (.o (.int .i64 1)))), none, 0⟩,
    ⟨(some 9), .mv (.t 32), none, 0⟩] 0 none)))))) (.seq (.reg [
    ⟨(some 42), .mv (.t 8), none, 0⟩,
    ⟨(some 6), .mv (.t 42), none, 0⟩,
    ⟨(some 7), .mv (.c (.p (.o (.int .i64 0)))), none, 0⟩] 0 none) .ret)))))),
  [.tmp 6, .tmp 7], 43, [0, 1, 2, 6, 7, 8, 9]⟩
theorem ok_ref01_Num : cFn Try.prog eqsT newsT vf_ref01_Num.keep Try.f51 = some vf_ref01_Num := by kernel_rfl
theorem ofB1 (x : Int) (h : 0 ≤ x ∧ x ≤ 255) : Sp.ofB x 1 = ⟨#[UInt8.ofNat x.toNat]⟩ := by
  have e : x % 256 = x := by omega
  simp [Sp.ofB, Sp.ofL, e]
theorem nil_app (a : ByteArray) : ⟨#[]⟩ ++ a = a := by apply ba_ext; rw [Sp.append_toList]; rfl
theorem app_nil (a : ByteArray) : a ++ ⟨#[]⟩ = a := by apply ba_ext; rw [Sp.append_toList]; simp
theorem app_assoc (a b c : ByteArray) : a ++ b ++ c = a ++ (b ++ c) := by apply ba_ext; simp only [Sp.append_toList, List.append_assoc]

theorem bAt_bt (s : ByteArray) (i : Nat) : bAt s i = Sp.bt s i := by unfold bAt Sp.bt; rw [List.getD_eq_getElem?_getD]
theorem textS_in (s : ByteArray) (p n : Nat) (h : p + n ≤ s.size) : Sp.textS s p n = s.extract p (p + n) := by
  unfold Sp.textS
  rw [if_pos (by unfold Sp.textOk; simp only [Bool.and_eq_true, decide_eq_true_eq]; omega)]
  rfl
theorem drop_take4 (l : List UInt8) (i : Nat) (h : i + 4 ≤ l.length) : (l.take (i + 4)).drop i = [l.getD i 0, l.getD (i + 1) 0, l.getD (i + 2) 0, l.getD (i + 3) 0] := by
  rw [List.drop_take, show i + 4 - i = 4 by omega, List.drop_eq_getElem_cons (show i < l.length by omega), List.drop_eq_getElem_cons (show i + 1 < l.length by omega), List.drop_eq_getElem_cons (show i + 1 + 1 < l.length by omega), List.drop_eq_getElem_cons (show i + 1 + 1 + 1 < l.length by omega)]
  simp only [List.take_succ_cons, List.take_zero, List.getD_eq_getElem?_getD]
  rw [List.getElem?_eq_getElem (by omega), List.getElem?_eq_getElem (by omega), List.getElem?_eq_getElem (by omega), List.getElem?_eq_getElem (by omega)]
  rfl
theorem n2_b (s : ByteArray) (p : Int) (h0 : 0 ≤ p) (h : p + 2 ≤ s.size) : n2 s p = 256 * bAt s p.toNat + bAt s (p + 1).toNat := by
  obtain ⟨k, rfl⟩ := Int.eq_ofNat_of_zero_le h0
  unfold n2
  have e := textS_in s k 2 (by omega)
  rw [show ((2 : Nat) : Int) = 2 from rfl] at e
  rw [e, Sp.extract_toList, Sp.drop_take2 _ _ (by rw [Sp.size_toList]; omega), Sp.num2, bAt_bt, bAt_bt, Int.toNat_natCast, show ((k : Int) + 1).toNat = k + 1 by omega]
  rfl
theorem num4 (a b c d : UInt8) : Sp.num 4294967296 [a, b, c, d] = 256 * (256 * (256 * (a.toNat : Int) + b.toNat) + c.toNat) + d.toNat := by
  unfold Sp.num
  have ha := a.toNat_lt; have hb := b.toNat_lt; have hc := c.toNat_lt; have hd := d.toNat_lt
  have e : Sp.be [a, b, c, d] = 256 * (256 * (256 * a.toNat + b.toNat) + c.toNat) + d.toNat := by simp only [Sp.be, List.foldl_cons, List.foldl_nil]; omega
  rw [e, Nat.mod_eq_of_lt (by omega)]; omega
theorem n4_b (s : ByteArray) (p : Int) (h0 : 0 ≤ p) (h : p + 4 ≤ s.size) : n4 s p = 256 * (256 * (256 * bAt s p.toNat + bAt s (p + 1).toNat) + bAt s (p + (1 + 1)).toNat) + bAt s (p + (1 + 1 + 1)).toNat := by
  obtain ⟨k, rfl⟩ := Int.eq_ofNat_of_zero_le h0
  unfold n4
  have e := textS_in s k 4 (by omega)
  rw [show ((4 : Nat) : Int) = 4 from rfl] at e
  rw [e, Sp.extract_toList, drop_take4 _ _ (by rw [Sp.size_toList]; omega), num4, bAt_bt, bAt_bt, bAt_bt, bAt_bt, Int.toNat_natCast, show ((k : Int) + 1).toNat = k + 1 by omega, show ((k : Int) + (1 + 1)).toNat = k + 2 by omega, show ((k : Int) + (1 + 1 + 1)).toNat = k + 3 by omega]
  rfl
theorem n2_bd (s : ByteArray) (p : Int) : 0 ≤ n2 s p ∧ n2 s p ≤ 65535 := ⟨Sp.num_nonneg _ _, by have := Sp.num_lt 65536 (Sp.textS s p 2).data.toList (by omega); unfold n2; omega⟩
theorem n4_bd (s : ByteArray) (p : Int) : 0 ≤ n4 s p ∧ n4 s p ≤ 4294967295 := ⟨Sp.num_nonneg _ _, by have := Sp.num_lt 4294967296 (Sp.textS s p 4).data.toList (by omega); unfold n4; omega⟩
theorem Sp.extract_whole' (s : ByteArray) : s.extract 0 s.size = s := by
  apply ba_ext
  rw [Sp.extract_toList, List.take_of_length_le (by rw [Sp.size_toList]; exact Nat.le_refl _), List.drop_zero]
theorem Arith.n2i {s : ByteArray} {p : Int} {K : Int → Prop} (g : K (n2 s p)) : Arith .u16 (n2 s p) K := .u16 (n2_bd s p) g
theorem Arith.n4i {s : ByteArray} {p : Int} {K : Int → Prop} (g : K (n4 s p)) : Arith .u32 (n4 s p) K := .u32 (n4_bd s p) g
theorem bAt_tail (s : ByteArray) (a k : Nat) : bAt (s.extract a s.size) k = bAt s (a + k) := by
  unfold bAt
  rw [Sp.extract_toList, List.getElem?_drop, List.take_of_length_le (by rw [Sp.size_toList]; omega)]
theorem extract_tail (s : ByteArray) (a k n : Nat) (hn : n = (s.extract a s.size).size) : (s.extract a s.size).extract k n = s.extract (a + k) s.size := by
  apply ba_ext
  subst hn
  rw [Sp.extract_toList, List.take_of_length_le (by rw [Sp.size_toList]; exact Nat.le_refl _), Sp.extract_toList, Sp.extract_toList, List.drop_drop]
set_option maxHeartbeats 1000000 in
theorem rNum4 (s : ByteArray) (p : Int) (hs : s.size ≤ 140737488355328) (hp : 0 ≤ p) (hp2 : p + 4 ≤ s.size) : Det Try.prog 51 [.o (.str s), .o (.int .i64 p), .o (.int .i64 4)] [] (.t [.o (.int .u64 (n4 s p)), .o (.int .i64 0)]) [] := by
  have b0 := bAt_bd s (p + 0).toNat
  have b1 := bAt_bd s (p + (0 + 1)).toNat
  have b2 := bAt_bd s (p + (0 + 1 + 1)).toNat
  have b3 := bAt_bd s (p + (0 + 1 + 1 + 1)).toNat
  refine can_of_W known mix Try.func51 (by kernel_rfl) ok_ref01_Num (Nat.le_of_ble_eq_true rfl) ?_
  repeat' ((conv => whnf); first
    | ((with_reducible refine Look.mk ?_); refine ⟨_, rfl, ?_⟩)
    | ((with_reducible refine LookN.zeros ?_))
    | ((with_reducible refine LookN.bytes ?_ ?_); (simp; done))
    | ((with_reducible refine BytesW.bytes ?_))
    | ((with_reducible refine Look.byte ?_ ?_); omega)
    | ((with_reducible refine Look.setb ?_ ?_ ?_); exact bv8_bd _; omega)
    | ((with_reducible refine LookN.setb ?_ ?_ ?_); exact bv8_bd _; omega)
    | ((with_reducible refine LookN.mk ?_); refine ⟨_, rfl, ?_⟩)
    | ((with_reducible refine Need.mk ?_ ?_); first | ((with_reducible refine needB ?_); kernel_rfl) | with_reducible rfl | omega | (with_reducible refine ⟨rfl, ?_⟩; focus omega) | (simp only [ByteArray.size_append, size_lit, List.size_toArray, List.length_cons, List.length_nil, Sp.ofB_size, Sp.headB_size]; omega) | exact rfl | trivial | exact Nat.le_of_ble_eq_true rfl | (exact ⟨rfl, by omega⟩) | (intro h; first | rfl | cases h) | (simp only [lenS_text, lenS_setN, lenS_zeros]; omega))
    | ((with_reducible refine BytesW.mk ?_); refine ⟨_, rfl, ?_⟩)
    | (with_reducible refine LoopW.unroll (fun X hX => ?_))
    | (refine hX _ _ ?_)
    | ((with_reducible refine Test.empty (fun h => ?_) (fun h => ?_)))
    | (with_reducible refine Test.tt ?_)
    | (with_reducible refine Test.ff ?_)
    | ((with_reducible refine Test.dt ?_ ?_); omega)
    | ((with_reducible refine Test.df ?_ ?_); omega)
    | (with_reducible refine Test.d (fun h => ?_) (fun h => ?_))
    | ((with_reducible refine Test.ieT ?_ ?_); omega)
    | ((with_reducible refine Test.ieF ?_ ?_); omega)
    | ((with_reducible refine Test.neT ?_ ?_); omega)
    | ((with_reducible refine Test.neF ?_ ?_); omega)
    | (with_reducible refine Test.ie (fun h => ?_) (fun h => ?_))
    | (with_reducible refine Test.ne (fun h => ?_) (fun h => ?_))
    | ((with_reducible refine Test.b ?_ ?_); (focus first | assumption | (simp [negB]; done) | exact rfl))
    | ((with_reducible refine Test.nb ?_ ?_); (focus first | assumption | (simp [negB]; done) | exact rfl))
    | (with_reducible refine Test.mk (fun h => ?_) (fun h => ?_))
    | (with_reducible refine Arith.bv8 ?_)
    | (with_reducible refine Arith.bv16 ?_)
    | (with_reducible refine Arith.bv32 ?_)
    | (with_reducible refine Arith.bv64 ?_)
    | ((with_reducible refine Arith.i64 ?_ ?_); omega)
    | ((with_reducible refine Arith.u64 ?_ ?_); omega)
    | ((with_reducible refine Arith.u32 ?_ ?_); omega)
    | ((with_reducible refine Arith.u16 ?_ ?_); omega)
    | ((with_reducible refine Arith.u8 ?_ ?_); omega)
    | ((with_reducible refine Arith.i32 ?_ ?_); omega)
    | ((with_reducible refine Arith.i64 ?_ ?_); simp (discharger := omega) only [Int.tdiv_eq_ediv_of_nonneg, shr_u8_4, shl_u8_4, shr_u16_4, shl_u16_4, shr_u16_8, shl_u16_8, shr_u32_4, shl_u32_4, shr_u32_8, shl_u32_8, shr_u32_16, shl_u32_16, shr_u32_24, shl_u32_24, shr_u64_4, shl_u64_4, shr_u64_8, shl_u64_8, shr_u64_16, shl_u64_16, shr_u64_24, shl_u64_24, shr_u64_40, shl_u64_40, shr_i64_4, shl_i64_4, shr_i64_8, shl_i64_8, shr_i64_16, shl_i64_16, shr_i64_24, shl_i64_24, shr_i64_40, shl_i64_40]; omega)
    | ((with_reducible refine Arith.u64 ?_ ?_); simp (discharger := omega) only [Int.tdiv_eq_ediv_of_nonneg, shr_u8_4, shl_u8_4, shr_u16_4, shl_u16_4, shr_u16_8, shl_u16_8, shr_u32_4, shl_u32_4, shr_u32_8, shl_u32_8, shr_u32_16, shl_u32_16, shr_u32_24, shl_u32_24, shr_u64_4, shl_u64_4, shr_u64_8, shl_u64_8, shr_u64_16, shl_u64_16, shr_u64_24, shl_u64_24, shr_u64_40, shl_u64_40, shr_i64_4, shl_i64_4, shr_i64_8, shl_i64_8, shr_i64_16, shl_i64_16, shr_i64_24, shl_i64_24, shr_i64_40, shl_i64_40]; omega)
    | ((with_reducible refine Arith.u32 ?_ ?_); simp (discharger := omega) only [Int.tdiv_eq_ediv_of_nonneg, shr_u8_4, shl_u8_4, shr_u16_4, shl_u16_4, shr_u16_8, shl_u16_8, shr_u32_4, shl_u32_4, shr_u32_8, shl_u32_8, shr_u32_16, shl_u32_16, shr_u32_24, shl_u32_24, shr_u64_4, shl_u64_4, shr_u64_8, shl_u64_8, shr_u64_16, shl_u64_16, shr_u64_24, shl_u64_24, shr_u64_40, shl_u64_40, shr_i64_4, shl_i64_4, shr_i64_8, shl_i64_8, shr_i64_16, shl_i64_16, shr_i64_24, shl_i64_24, shr_i64_40, shl_i64_40]; omega)
    | ((with_reducible refine Arith.u16 ?_ ?_); simp (discharger := omega) only [Int.tdiv_eq_ediv_of_nonneg, shr_u8_4, shl_u8_4, shr_u16_4, shl_u16_4, shr_u16_8, shl_u16_8, shr_u32_4, shl_u32_4, shr_u32_8, shl_u32_8, shr_u32_16, shl_u32_16, shr_u32_24, shl_u32_24, shr_u64_4, shl_u64_4, shr_u64_8, shl_u64_8, shr_u64_16, shl_u64_16, shr_u64_24, shl_u64_24, shr_u64_40, shl_u64_40, shr_i64_4, shl_i64_4, shr_i64_8, shl_i64_8, shr_i64_16, shl_i64_16, shr_i64_24, shl_i64_24, shr_i64_40, shl_i64_40]; omega)
    | ((with_reducible refine Arith.u8 ?_ ?_); simp (discharger := omega) only [Int.tdiv_eq_ediv_of_nonneg, shr_u8_4, shl_u8_4, shr_u16_4, shl_u16_4, shr_u16_8, shl_u16_8, shr_u32_4, shl_u32_4, shr_u32_8, shl_u32_8, shr_u32_16, shl_u32_16, shr_u32_24, shl_u32_24, shr_u64_4, shl_u64_4, shr_u64_8, shl_u64_8, shr_u64_16, shl_u64_16, shr_u64_24, shl_u64_24, shr_u64_40, shl_u64_40, shr_i64_4, shl_i64_4, shr_i64_8, shl_i64_8, shr_i64_16, shl_i64_16, shr_i64_24, shl_i64_24, shr_i64_40, shl_i64_40]; omega)
    | (with_reducible refine Arith.mk ?_)
    | (with_reducible refine Ends.mk ?_))
  all_goals refine ⟨?_, rfl⟩
  all_goals rw [n4_b s p hp hp2]
  all_goals simp
set_option maxHeartbeats 1000000 in
theorem rNum2 (s : ByteArray) (p : Int) (hs : s.size ≤ 140737488355328) (hp : 0 ≤ p) (hp2 : p + 2 ≤ s.size) : Det Try.prog 51 [.o (.str s), .o (.int .i64 p), .o (.int .i64 2)] [] (.t [.o (.int .u64 (256 * bAt s p.toNat + bAt s (p + 1).toNat)), .o (.int .i64 0)]) [] := by
  have b0 := bAt_bd s (p + 0).toNat
  have b1 := bAt_bd s (p + (0 + 1)).toNat
  refine can_of_W known mix Try.func51 (by kernel_rfl) ok_ref01_Num (Nat.le_of_ble_eq_true rfl) ?_
  repeat' ((conv => whnf); first
    | ((with_reducible refine Look.mk ?_); refine ⟨_, rfl, ?_⟩)
    | ((with_reducible refine LookN.zeros ?_))
    | ((with_reducible refine LookN.bytes ?_ ?_); (simp; done))
    | ((with_reducible refine BytesW.bytes ?_))
    | ((with_reducible refine Look.byte ?_ ?_); omega)
    | ((with_reducible refine Look.setb ?_ ?_ ?_); exact bv8_bd _; omega)
    | ((with_reducible refine LookN.setb ?_ ?_ ?_); exact bv8_bd _; omega)
    | ((with_reducible refine LookN.mk ?_); refine ⟨_, rfl, ?_⟩)
    | ((with_reducible refine Need.mk ?_ ?_); first | ((with_reducible refine needB ?_); kernel_rfl) | with_reducible rfl | omega | (with_reducible refine ⟨rfl, ?_⟩; focus omega) | (simp only [ByteArray.size_append, size_lit, List.size_toArray, List.length_cons, List.length_nil, Sp.ofB_size, Sp.headB_size]; omega) | exact rfl | trivial | exact Nat.le_of_ble_eq_true rfl | (exact ⟨rfl, by omega⟩) | (intro h; first | rfl | cases h) | (simp only [lenS_text, lenS_setN, lenS_zeros]; omega))
    | ((with_reducible refine BytesW.mk ?_); refine ⟨_, rfl, ?_⟩)
    | (with_reducible refine LoopW.unroll (fun X hX => ?_))
    | (refine hX _ _ ?_)
    | ((with_reducible refine Test.empty (fun h => ?_) (fun h => ?_)))
    | (with_reducible refine Test.tt ?_)
    | (with_reducible refine Test.ff ?_)
    | ((with_reducible refine Test.dt ?_ ?_); omega)
    | ((with_reducible refine Test.df ?_ ?_); omega)
    | (with_reducible refine Test.d (fun h => ?_) (fun h => ?_))
    | ((with_reducible refine Test.ieT ?_ ?_); omega)
    | ((with_reducible refine Test.ieF ?_ ?_); omega)
    | ((with_reducible refine Test.neT ?_ ?_); omega)
    | ((with_reducible refine Test.neF ?_ ?_); omega)
    | (with_reducible refine Test.ie (fun h => ?_) (fun h => ?_))
    | (with_reducible refine Test.ne (fun h => ?_) (fun h => ?_))
    | ((with_reducible refine Test.b ?_ ?_); (focus first | assumption | (simp [negB]; done) | exact rfl))
    | ((with_reducible refine Test.nb ?_ ?_); (focus first | assumption | (simp [negB]; done) | exact rfl))
    | (with_reducible refine Test.mk (fun h => ?_) (fun h => ?_))
    | (with_reducible refine Arith.bv8 ?_)
    | (with_reducible refine Arith.bv16 ?_)
    | (with_reducible refine Arith.bv32 ?_)
    | (with_reducible refine Arith.bv64 ?_)
    | ((with_reducible refine Arith.i64 ?_ ?_); omega)
    | ((with_reducible refine Arith.u64 ?_ ?_); omega)
    | ((with_reducible refine Arith.u32 ?_ ?_); omega)
    | ((with_reducible refine Arith.u16 ?_ ?_); omega)
    | ((with_reducible refine Arith.u8 ?_ ?_); omega)
    | ((with_reducible refine Arith.i32 ?_ ?_); omega)
    | ((with_reducible refine Arith.i64 ?_ ?_); simp (discharger := omega) only [Int.tdiv_eq_ediv_of_nonneg, shr_u8_4, shl_u8_4, shr_u16_4, shl_u16_4, shr_u16_8, shl_u16_8, shr_u32_4, shl_u32_4, shr_u32_8, shl_u32_8, shr_u32_16, shl_u32_16, shr_u32_24, shl_u32_24, shr_u64_4, shl_u64_4, shr_u64_8, shl_u64_8, shr_u64_16, shl_u64_16, shr_u64_24, shl_u64_24, shr_u64_40, shl_u64_40, shr_i64_4, shl_i64_4, shr_i64_8, shl_i64_8, shr_i64_16, shl_i64_16, shr_i64_24, shl_i64_24, shr_i64_40, shl_i64_40]; omega)
    | ((with_reducible refine Arith.u64 ?_ ?_); simp (discharger := omega) only [Int.tdiv_eq_ediv_of_nonneg, shr_u8_4, shl_u8_4, shr_u16_4, shl_u16_4, shr_u16_8, shl_u16_8, shr_u32_4, shl_u32_4, shr_u32_8, shl_u32_8, shr_u32_16, shl_u32_16, shr_u32_24, shl_u32_24, shr_u64_4, shl_u64_4, shr_u64_8, shl_u64_8, shr_u64_16, shl_u64_16, shr_u64_24, shl_u64_24, shr_u64_40, shl_u64_40, shr_i64_4, shl_i64_4, shr_i64_8, shl_i64_8, shr_i64_16, shl_i64_16, shr_i64_24, shl_i64_24, shr_i64_40, shl_i64_40]; omega)
    | ((with_reducible refine Arith.u32 ?_ ?_); simp (discharger := omega) only [Int.tdiv_eq_ediv_of_nonneg, shr_u8_4, shl_u8_4, shr_u16_4, shl_u16_4, shr_u16_8, shl_u16_8, shr_u32_4, shl_u32_4, shr_u32_8, shl_u32_8, shr_u32_16, shl_u32_16, shr_u32_24, shl_u32_24, shr_u64_4, shl_u64_4, shr_u64_8, shl_u64_8, shr_u64_16, shl_u64_16, shr_u64_24, shl_u64_24, shr_u64_40, shl_u64_40, shr_i64_4, shl_i64_4, shr_i64_8, shl_i64_8, shr_i64_16, shl_i64_16, shr_i64_24, shl_i64_24, shr_i64_40, shl_i64_40]; omega)
    | ((with_reducible refine Arith.u16 ?_ ?_); simp (discharger := omega) only [Int.tdiv_eq_ediv_of_nonneg, shr_u8_4, shl_u8_4, shr_u16_4, shl_u16_4, shr_u16_8, shl_u16_8, shr_u32_4, shl_u32_4, shr_u32_8, shl_u32_8, shr_u32_16, shl_u32_16, shr_u32_24, shl_u32_24, shr_u64_4, shl_u64_4, shr_u64_8, shl_u64_8, shr_u64_16, shl_u64_16, shr_u64_24, shl_u64_24, shr_u64_40, shl_u64_40, shr_i64_4, shl_i64_4, shr_i64_8, shl_i64_8, shr_i64_16, shl_i64_16, shr_i64_24, shl_i64_24, shr_i64_40, shl_i64_40]; omega)
    | ((with_reducible refine Arith.u8 ?_ ?_); simp (discharger := omega) only [Int.tdiv_eq_ediv_of_nonneg, shr_u8_4, shl_u8_4, shr_u16_4, shl_u16_4, shr_u16_8, shl_u16_8, shr_u32_4, shl_u32_4, shr_u32_8, shl_u32_8, shr_u32_16, shl_u32_16, shr_u32_24, shl_u32_24, shr_u64_4, shl_u64_4, shr_u64_8, shl_u64_8, shr_u64_16, shl_u64_16, shr_u64_24, shl_u64_24, shr_u64_40, shl_u64_40, shr_i64_4, shl_i64_4, shr_i64_8, shl_i64_8, shr_i64_16, shl_i64_16, shr_i64_24, shl_i64_24, shr_i64_40, shl_i64_40]; omega)
    | (with_reducible refine Arith.mk ?_)
    | (with_reducible refine Ends.mk ?_))
  all_goals first | exact ⟨rfl, rfl⟩ | (refine ⟨?_, rfl⟩; simp; done)
theorem rNum2' (s : ByteArray) (p : Int) (hs : s.size ≤ 140737488355328) (hp : 0 ≤ p) (hp2 : p + 2 ≤ s.size) : Det Try.prog 51 [.o (.str s), .o (.int .i64 p), .o (.int .i64 2)] [] (.t [.o (.int .u64 (n2 s p)), .o (.int .i64 0)]) [] := by
  rw [n2_b s p hp hp2]; exact rNum2 s p hs hp hp2
theorem ofB2_list (x : Int) : (Sp.ofB x 2).data.toList = [UInt8.ofNat (x / 256 % 256).toNat, UInt8.ofNat (x % 256).toNat] := by
  simp [Sp.ofB, Sp.ofL, List.range_succ]
theorem ofB1_list (x : Int) : (Sp.ofB x 1).data.toList = [UInt8.ofNat (x % 256).toNat] := by
  simp [Sp.ofB, Sp.ofL, List.range_succ]
theorem ofB4_list (x : Int) : (Sp.ofB x 4).data.toList = [UInt8.ofNat (x / 16777216 % 256).toNat, UInt8.ofNat (x / 65536 % 256).toNat, UInt8.ofNat (x / 256 % 256).toNat, UInt8.ofNat (x % 256).toNat] := by
  simp [Sp.ofB, Sp.ofL, List.range_succ]
theorem u8i (z : Int) (h : 0 ≤ z ∧ z ≤ 255) : ((UInt8.ofNat z.toNat).toNat : Int) = z := by simp; omega
theorem u8m (z : Int) : ((UInt8.ofNat (z % 256).toNat).toNat : Int) = z % 256 := u8i _ (by omega)
theorem bAt_list {s : ByteArray} {l : List UInt8} (h : s.data.toList = l) (k : Nat) : bAt s k = ((l[k]?.getD 0).toNat : Int) := by unfold bAt; rw [h]
theorem bAt_left (a b : ByteArray) (k : Nat) (h : k < a.size) : bAt (a ++ b) k = bAt a k := by rw [bAt_bt, bAt_bt]; exact Sp.bt_append_left a b k h
theorem tail_app (a b : ByteArray) (n : Nat) (h : n = a.size) : (a ++ b).extract n (a ++ b).size = b := by
  subst h; rw [ByteArray.size_append]; exact Sp.extract_append_right a b
theorem bt_setB' (s : ByteArray) (k : Nat) (v : Int) (hv : 0 ≤ v ∧ v ≤ 255) (hk : k < s.size) (i : Nat) : Sp.bt (setB s k v) i = if i = k then v else Sp.bt s i := by
  unfold Sp.bt setB
  simp only [List.toList_toArray, List.getD_eq_getElem?_getD, List.getElem?_set]
  by_cases h : i = k
  · subst h
    rw [if_pos rfl, if_pos rfl, if_pos (by simpa using hk)]
    simp; omega
  · rw [if_neg (fun e => h e.symm), if_neg h]
theorem setB_same (s : ByteArray) (k : Nat) (hk : k < s.size) : setB s k (bAt s k) = s := by
  apply ba_ext
  unfold setB bAt
  have hk' : k < s.data.toList.length := by simpa using hk
  rw [List.getElem?_eq_getElem hk', Option.getD_some]
  have e : UInt8.ofNat ((s.data.toList[k].toNat : Int)).toNat = s.data.toList[k] := by simp
  rw [e, List.set_getElem_self]
theorem bt_front (H s t : ByteArray) (k : Nat) (v : Int) (h : ∀ i, Sp.bt t i = if i = k then v else Sp.bt s i) (i : Nat) : Sp.bt (H ++ t) i = if i = H.size + k then v else Sp.bt (H ++ s) i := by
  by_cases c : i < H.size
  · rw [Sp.bt_append_left _ _ _ c, Sp.bt_append_left _ _ _ c, if_neg (by omega)]
  · obtain ⟨j, rfl⟩ : ∃ j, i = H.size + j := ⟨i - H.size, by omega⟩
    rw [Sp.bt_append_right, Sp.bt_append_right, h j]
    by_cases e : j = k
    · rw [if_pos e, if_pos (by omega)]
    · rw [if_neg e, if_neg (by omega)]

end G2
end Go.Proofs.Ytnmeeafnobfobaa.VM
