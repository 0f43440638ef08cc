/- law 07 by the evaluator: an address is read (ether.Parse). -/
import Derived.Test.YtnikpanebkknfaaDoorP07
import Derived.Test.YtnikpanebkknfaaDoorB7
import Derived.Test.YtnikpanebkknfaaDoorV07c
namespace Go.Proofs.YtnikpanebkknfaaDoor.VM
namespace G4
open Go.RowKit
set_option linter.unusedVariables false
set_option linter.unusedSimpArgs false
theorem idx58_no : ∀ {a : List UInt8}, (58 : UInt8) ∉ a → Lib.index a [58] = -1
  | [], _ => by simp [Lib.index]
  | b :: a, h => by
    simp only [List.mem_cons, not_or] at h
    rw [Lib.index, idx58_no h.2]
    simp [List.isPrefixOf, h.1]
theorem idx58_at : ∀ {a : List UInt8} {r : List UInt8}, (58 : UInt8) ∉ a → Lib.index (a ++ 58 :: r) [58] = a.length
  | [], r, _ => by simp [Lib.index, List.isPrefixOf]
  | b :: a, r, h => by
    simp only [List.mem_cons, not_or] at h
    have ih := idx58_at (r := r) h.2
    rw [List.cons_append, Lib.index, ih]
    have : ¬ ((a.length : Int) == -1) = true := by simp
    simp [List.isPrefixOf, h.1, this]
theorem filt58_no {a : List UInt8} (h : (58 : UInt8) ∉ a) : a.filter (· != 58) = a := by
  rw [List.filter_eq_self]
  intro x hx
  simp only [bne_iff_ne, ne_eq]
  rintro rfl; exact h hx
theorem repl58 : ∀ (n : Nat) (l : List UInt8), l.length ≤ n → Lib.replaceK [58] [] (Lib.count l [58]) l = l.filter (· != 58) := by
  intro n
  induction n with
  | zero =>
    intro l h
    obtain rfl : l = [] := List.length_eq_zero_iff.1 (by omega)
    rw [Lib.count_miss (idx58_no (by simp))]; rfl
  | succ n ih =>
    intro l h
    by_cases hm : (58 : UInt8) ∈ l
    · obtain ⟨a, r, rfl, ha⟩ := List.eq_append_cons_of_mem hm
      have hx := idx58_at (r := r) ha
      have hd : (a ++ 58 :: r).drop (a.length + 1) = r := by
        rw [List.drop_append]; simp
      rw [Lib.count_hit (by simp) hx]
      show Lib.replaceK [58] [] (1 + Lib.count ((a ++ 58 :: r).drop (a.length + 1)) [58]) _ = _
      rw [hd, Nat.add_comm, Lib.replaceK_hit _ _ _ _ _ hx]
      simp only [List.length_singleton, hd, List.append_nil]
      rw [List.take_left, ih r (by simp at h; omega)]
      simp [filt58_no ha]
    · rw [Lib.count_miss (idx58_no hm), filt58_no hm]; rfl
theorem replB58 (s : ByteArray) : (replB s colB ⟨#[]⟩).data.toList = s.data.toList.filter (· != 58) := by
  show Lib.replaceAll s.data.toList [58] [] = _
  rw [show Lib.replaceAll s.data.toList [58] [] = Lib.replaceK [58] [] (Lib.replaceNum s.data.toList [58] (-1)) s.data.toList from rfl]
  rw [show Lib.replaceNum s.data.toList [58] (-1) = Lib.count s.data.toList [58] from if_pos (.inl (by decide))]
  exact repl58 _ _ (Nat.le_refl _)
theorem pu16_list (s : ByteArray) (h : s.data.toList ≠ []) : pu16 s = pu16L 0 s.data.toList := by
  refine if_neg fun e => h ?_
  exact List.length_eq_zero_iff.1 (by simpa using e)
/-- An address's text, without its colons, is read as that address. -/
theorem macB_read {m : Nat} (h : m ≤ 281474976710655) : pu16 (replB (macB m) colB ⟨#[]⟩) = ((m : Int), 0) := by
  have e : (replB (macB m) colB ⟨#[]⟩).data.toList = macL m := by rw [replB58, macB_filter]
  rw [pu16_list _ (by
    rw [e]; obtain ⟨x, y, hx, _⟩ := hxL_two (c := m / 1099511627776 % 256) (by omega)
    unfold macL; rw [hx]; simp), e, macL_read h]
end G4
end Go.Proofs.YtnikpanebkknfaaDoor.VM

namespace Go.Proofs.YtnikpanebkknfaaDoor.VM
namespace G4
open Go.RowKit
set_option linter.unusedVariables false
set_option linter.unusedSimpArgs false
set_option maxRecDepth 100000
variable {G : Ground}
def vf_strconv_ParseUint : VFn := ⟨(.seq (.reg [
    ⟨(some 6), .mv (.c (.p (.o (.int .u64 0)))), none, 0⟩,
    ⟨(some 7), .mv (.c (.p (.o (.nili)))), none, 0⟩] 0 none) (.seq (.reg [
    ⟨(some 11), .mv (.t 0), none, 0⟩,
    ⟨(some 12), .mv (.t 1), none, 0⟩,
    ⟨(some 13), .mv (.t 2), none, 0⟩,
    ⟨(some 14), .call 75 [(.t 11), (.t 12), (.t 13)] 0, none, 0⟩,
    ⟨(some 10), .mv (.t 14), none, 0⟩,
    ⟨(some 15), .ext 0 (.t 10), none, 0⟩,
    ⟨(some 16), .ext 1 (.t 10), none, 0⟩,
    ⟨(some 8), .mv (.t 15), none, 0⟩,
    ⟨(some 9), .mv (.t 16), none, 0⟩] 0 none) (.seq (.seq (.reg [
    ⟨(some 17), .mv (.t 9), none, 0⟩,
    ⟨(some 18), .ifn true (.t 17), none, 0⟩] 0 none) (.cond (.t 18) (.seq (.reg [
    ⟨(some 19), .mv (.t 8), none, 0⟩,
    ⟨(some 20), .mv (.t 0), none, 0⟩,
    ⟨(some 21), .mv (.t 1), none, 0⟩,
    ⟨(some 22), .mv (.t 2), none, 0⟩,
    ⟨(some 23), .mv (.t 9), none, 0⟩,
    ⟨(some 24), .call 76 [(.c (.p (.o (.str ⟨#[80, 97, 114, 115, 101, 85, 105, 110, 116]⟩)))), (.t 20), (.t 21), (.t 22), (.t 23)] 0, none, 0⟩,
    ⟨(some 6), .mv (.t 19), none, 0⟩,
    ⟨(some 7), .mv (.t 24), none, 0⟩] 0 none) .ret) .skip)) (.seq (.reg [
    ⟨(some 25), .mv (.t 8), none, 0⟩,
    ⟨(some 6), .mv (.t 25), none, 0⟩,
    ⟨(some 7), .mv (.c (.p (.o (.nili)))), none, 0⟩] 0 none) .ret)))),
  [.tmp 6, .tmp 7], 26, [0, 1, 2, 6, 7, 8, 9]⟩
theorem ok_strconv_ParseUint : cFn Tryd.prog eqsT newsT vf_strconv_ParseUint.keep Tryd.f49 = some vf_strconv_ParseUint := by kernel_rfl
theorem pu16L_err : ∀ (l : List UInt8) (n : Int), (pu16L n l).2 = 0 ∨ (pu16L n l).2 = 1 ∨ (pu16L n l).2 = 2
  | [], n => .inl rfl
  | c :: l, n => by
    rw [pu16L]
    split
    · exact .inr (.inr rfl)
    · split
      · exact .inr (.inl rfl)
      · exact pu16L_err l _
theorem pu16_err (s : ByteArray) : (pu16 s).2 = 0 ∨ (pu16 s).2 = 1 ∨ (pu16 s).2 = 2 := by
  unfold pu16; split
  · exact .inr (.inr rfl)
  · exact pu16L_err _ _
theorem pu16_as (s : ByteArray) (k : Int) (hk : (pu16 s).2 = k) (hs : s.size ≤ 1000000) : Det G Tryd.prog 75 [.o (.str s), .o (.int .i64 16), .o (.int .i64 48)] [] (.t [.o (.int .u64 (pu16 s).1), .o (errU k)]) [] := by
  have := pu16_det (G := G) s hs
  rw [hk] at this; exact this

set_option maxHeartbeats 4000000 in
theorem spu_0 (hG : Tabs G) (s : ByteArray) (hs : s.size ≤ 1000000) (hk : (pu16 s).2 = 0) : Det G Tryd.prog 49 [.o (.str s), .o (.int .i64 16), .o (.int .i64 48)] [] (.t [.o (.int .u64 (pu16 s).1), .o .nili]) [] := by
  refine can_of_W known mix Tryd.func49 (by kernel_rfl) ok_strconv_ParseUint (Nat.le_of_ble_eq_true rfl) ?_
  repeat' ((conv => whnf); first
    | ((with_reducible refine Look.mk ?_); refine ⟨_, rfl, ?_⟩)
    | ((with_reducible refine LookN.zeros ?_))
    | ((with_reducible refine LookN.bytes ?_ ?_); (simp; done))
    | ((with_reducible refine BytesW.bytes ?_))
    | ((with_reducible refine Look.byte ?_ ?_); omega)
    | ((with_reducible refine Look.setb ?_ ?_ ?_); exact bv8_bd _; omega)
    | ((with_reducible refine LookN.setb ?_ ?_ ?_); exact bv8_bd _; omega)
    | ((with_reducible refine LookN.mk ?_); refine ⟨_, rfl, ?_⟩)
    | ((with_reducible refine Need.mk ?_ ?_); first | ((with_reducible refine needB ?_); kernel_rfl) | with_reducible rfl | omega | (with_reducible refine ⟨rfl, ?_⟩; focus omega) | (simp only [ByteArray.size_append, size_lit, List.size_toArray, List.length_cons, List.length_nil]; omega) | exact rfl | trivial | exact Nat.le_of_ble_eq_true rfl | (exact ⟨rfl, by omega⟩) | (intro h; first | rfl | cases h) | (simp only [lenS_text, lenS_setN, lenS_zeros]; omega))
    | ((with_reducible refine BytesW.mk ?_); refine ⟨_, rfl, ?_⟩)
    | (with_reducible refine CallW.det (toerr_syn hG _ _ (by omega)) ?_)
    | (with_reducible refine CallW.det (pu16_as _ 0 hk (by omega)) ?_)
    | ((with_reducible refine WrT.same ?_ ?_); focus (repeat (first | exact trivial | ((conv => whnf); refine ⟨rfl, ?_⟩))))
    | (with_reducible refine WrT.all ?_)
    | ((with_reducible refine Test.tmodEqT ?_ ?_ ?_); omega; focus first | omega | assumption)
    | ((with_reducible refine Test.tmodEqF ?_ ?_ ?_); omega; focus first | omega | assumption)
    | ((with_reducible refine Test.tmodNeT ?_ ?_ ?_); omega; focus first | omega | assumption)
    | ((with_reducible refine Test.tmodNeF ?_ ?_ ?_); omega; focus first | omega | assumption)
    | ((with_reducible refine Test.tmodEq ?_ (fun h => ?_) (fun h => ?_)); omega)
    | ((with_reducible refine Test.tmodNe ?_ (fun h => ?_) (fun h => ?_)); omega)
    | ((with_reducible refine Test.notT ?_ ?_); focus assumption)
    | ((with_reducible refine Test.notF ?_ ?_); focus assumption)
    | (with_reducible refine Test.notIe (fun h => ?_) (fun h => ?_))
    | (with_reducible refine Test.notD (fun h => ?_) (fun h => ?_))
    | ((with_reducible refine Test.empty (fun h => ?_) (fun h => ?_)))
    | (with_reducible refine Test.tt ?_)
    | (with_reducible refine Test.ff ?_)
    | ((with_reducible refine Test.dt ?_ ?_); omega)
    | ((with_reducible refine Test.df ?_ ?_); omega)
    | (with_reducible refine Test.d (fun h => ?_) (fun h => ?_))
    | ((with_reducible refine Test.ieT ?_ ?_); omega)
    | ((with_reducible refine Test.ieF ?_ ?_); omega)
    | ((with_reducible refine Test.neT ?_ ?_); omega)
    | ((with_reducible refine Test.neF ?_ ?_); omega)
    | (with_reducible refine Test.ie (fun h => ?_) (fun h => ?_))
    | (with_reducible refine Test.ne (fun h => ?_) (fun h => ?_))
    | ((with_reducible refine Test.b ?_ ?_); (focus first | assumption | (simp [negB]; done) | exact rfl))
    | ((with_reducible refine Test.nb ?_ ?_); (focus first | assumption | (simp [negB]; done) | exact rfl))
    | (with_reducible refine Test.notS (fun h => ?_) (fun h => ?_))
    | (with_reducible refine Test.mk (fun h => ?_) (fun h => ?_))
    | ((with_reducible refine Arith.tdiv ?_ ?_); omega)
    | (with_reducible refine Arith.bv8 ?_)
    | (with_reducible refine Arith.bv16 ?_)
    | (with_reducible refine Arith.bv32 ?_)
    | (with_reducible refine Arith.bv64 ?_)
    | ((with_reducible refine Arith.i64 ?_ ?_); omega)
    | ((with_reducible refine Arith.u64 ?_ ?_); omega)
    | ((with_reducible refine Arith.u32 ?_ ?_); omega)
    | ((with_reducible refine Arith.u16 ?_ ?_); omega)
    | ((with_reducible refine Arith.u8 ?_ ?_); omega)
    | ((with_reducible refine Arith.i32 ?_ ?_); omega)
    | ((with_reducible refine Arith.i64 ?_ ?_); simp (discharger := omega) only [Int.tdiv_eq_ediv_of_nonneg, shr_u8_4, shl_u8_4, shr_u16_4, shl_u16_4, shr_u16_8, shl_u16_8, shr_u32_4, shl_u32_4, shr_u32_8, shl_u32_8, shr_u32_16, shl_u32_16, shr_u32_24, shl_u32_24, shr_u64_4, shl_u64_4, shr_u64_8, shl_u64_8, shr_u64_16, shl_u64_16, shr_u64_24, shl_u64_24, shr_u64_40, shl_u64_40, shr_i64_4, shl_i64_4, shr_i64_8, shl_i64_8, shr_i64_16, shl_i64_16, shr_i64_24, shl_i64_24, shr_i64_40, shl_i64_40]; omega)
    | ((with_reducible refine Arith.u64 ?_ ?_); simp (discharger := omega) only [Int.tdiv_eq_ediv_of_nonneg, shr_u8_4, shl_u8_4, shr_u16_4, shl_u16_4, shr_u16_8, shl_u16_8, shr_u32_4, shl_u32_4, shr_u32_8, shl_u32_8, shr_u32_16, shl_u32_16, shr_u32_24, shl_u32_24, shr_u64_4, shl_u64_4, shr_u64_8, shl_u64_8, shr_u64_16, shl_u64_16, shr_u64_24, shl_u64_24, shr_u64_40, shl_u64_40, shr_i64_4, shl_i64_4, shr_i64_8, shl_i64_8, shr_i64_16, shl_i64_16, shr_i64_24, shl_i64_24, shr_i64_40, shl_i64_40]; omega)
    | ((with_reducible refine Arith.u32 ?_ ?_); simp (discharger := omega) only [Int.tdiv_eq_ediv_of_nonneg, shr_u8_4, shl_u8_4, shr_u16_4, shl_u16_4, shr_u16_8, shl_u16_8, shr_u32_4, shl_u32_4, shr_u32_8, shl_u32_8, shr_u32_16, shl_u32_16, shr_u32_24, shl_u32_24, shr_u64_4, shl_u64_4, shr_u64_8, shl_u64_8, shr_u64_16, shl_u64_16, shr_u64_24, shl_u64_24, shr_u64_40, shl_u64_40, shr_i64_4, shl_i64_4, shr_i64_8, shl_i64_8, shr_i64_16, shl_i64_16, shr_i64_24, shl_i64_24, shr_i64_40, shl_i64_40]; omega)
    | ((with_reducible refine Arith.u16 ?_ ?_); simp (discharger := omega) only [Int.tdiv_eq_ediv_of_nonneg, shr_u8_4, shl_u8_4, shr_u16_4, shl_u16_4, shr_u16_8, shl_u16_8, shr_u32_4, shl_u32_4, shr_u32_8, shl_u32_8, shr_u32_16, shl_u32_16, shr_u32_24, shl_u32_24, shr_u64_4, shl_u64_4, shr_u64_8, shl_u64_8, shr_u64_16, shl_u64_16, shr_u64_24, shl_u64_24, shr_u64_40, shl_u64_40, shr_i64_4, shl_i64_4, shr_i64_8, shl_i64_8, shr_i64_16, shl_i64_16, shr_i64_24, shl_i64_24, shr_i64_40, shl_i64_40]; omega)
    | ((with_reducible refine Arith.u8 ?_ ?_); simp (discharger := omega) only [Int.tdiv_eq_ediv_of_nonneg, shr_u8_4, shl_u8_4, shr_u16_4, shl_u16_4, shr_u16_8, shl_u16_8, shr_u32_4, shl_u32_4, shr_u32_8, shl_u32_8, shr_u32_16, shl_u32_16, shr_u32_24, shl_u32_24, shr_u64_4, shl_u64_4, shr_u64_8, shl_u64_8, shr_u64_16, shl_u64_16, shr_u64_24, shl_u64_24, shr_u64_40, shl_u64_40, shr_i64_4, shl_i64_4, shr_i64_8, shl_i64_8, shr_i64_16, shl_i64_16, shr_i64_24, shl_i64_24, shr_i64_40, shl_i64_40]; omega)
    | (with_reducible refine Arith.mk ?_)
    | (with_reducible refine Ends.mk ?_))
  all_goals first
    | exact ⟨rfl, rfl⟩
set_option maxHeartbeats 4000000 in
theorem spu_1 (hG : Tabs G) (s : ByteArray) (hs : s.size ≤ 1000000) (hk : (pu16 s).2 = 1) : Det G Tryd.prog 49 [.o (.str s), .o (.int .i64 16), .o (.int .i64 48)] [] (.t [.o (.int .u64 (pu16 s).1), .o .any]) [] := by
  refine can_of_W known mix Tryd.func49 (by kernel_rfl) ok_strconv_ParseUint (Nat.le_of_ble_eq_true rfl) ?_
  repeat' ((conv => whnf); first
    | ((with_reducible refine Look.mk ?_); refine ⟨_, rfl, ?_⟩)
    | ((with_reducible refine LookN.zeros ?_))
    | ((with_reducible refine LookN.bytes ?_ ?_); (simp; done))
    | ((with_reducible refine BytesW.bytes ?_))
    | ((with_reducible refine Look.byte ?_ ?_); omega)
    | ((with_reducible refine Look.setb ?_ ?_ ?_); exact bv8_bd _; omega)
    | ((with_reducible refine LookN.setb ?_ ?_ ?_); exact bv8_bd _; omega)
    | ((with_reducible refine LookN.mk ?_); refine ⟨_, rfl, ?_⟩)
    | ((with_reducible refine Need.mk ?_ ?_); first | ((with_reducible refine needB ?_); kernel_rfl) | with_reducible rfl | omega | (with_reducible refine ⟨rfl, ?_⟩; focus omega) | (simp only [ByteArray.size_append, size_lit, List.size_toArray, List.length_cons, List.length_nil]; omega) | exact rfl | trivial | exact Nat.le_of_ble_eq_true rfl | (exact ⟨rfl, by omega⟩) | (intro h; first | rfl | cases h) | (simp only [lenS_text, lenS_setN, lenS_zeros]; omega))
    | ((with_reducible refine BytesW.mk ?_); refine ⟨_, rfl, ?_⟩)
    | (with_reducible refine CallW.det (toerr_ran hG _ _ (by omega)) ?_)
    | (with_reducible refine CallW.det (pu16_as _ 1 hk (by omega)) ?_)
    | ((with_reducible refine WrT.same ?_ ?_); focus (repeat (first | exact trivial | ((conv => whnf); refine ⟨rfl, ?_⟩))))
    | (with_reducible refine WrT.all ?_)
    | ((with_reducible refine Test.tmodEqT ?_ ?_ ?_); omega; focus first | omega | assumption)
    | ((with_reducible refine Test.tmodEqF ?_ ?_ ?_); omega; focus first | omega | assumption)
    | ((with_reducible refine Test.tmodNeT ?_ ?_ ?_); omega; focus first | omega | assumption)
    | ((with_reducible refine Test.tmodNeF ?_ ?_ ?_); omega; focus first | omega | assumption)
    | ((with_reducible refine Test.tmodEq ?_ (fun h => ?_) (fun h => ?_)); omega)
    | ((with_reducible refine Test.tmodNe ?_ (fun h => ?_) (fun h => ?_)); omega)
    | ((with_reducible refine Test.notT ?_ ?_); focus assumption)
    | ((with_reducible refine Test.notF ?_ ?_); focus assumption)
    | (with_reducible refine Test.notIe (fun h => ?_) (fun h => ?_))
    | (with_reducible refine Test.notD (fun h => ?_) (fun h => ?_))
    | ((with_reducible refine Test.empty (fun h => ?_) (fun h => ?_)))
    | (with_reducible refine Test.tt ?_)
    | (with_reducible refine Test.ff ?_)
    | ((with_reducible refine Test.dt ?_ ?_); omega)
    | ((with_reducible refine Test.df ?_ ?_); omega)
    | (with_reducible refine Test.d (fun h => ?_) (fun h => ?_))
    | ((with_reducible refine Test.ieT ?_ ?_); omega)
    | ((with_reducible refine Test.ieF ?_ ?_); omega)
    | ((with_reducible refine Test.neT ?_ ?_); omega)
    | ((with_reducible refine Test.neF ?_ ?_); omega)
    | (with_reducible refine Test.ie (fun h => ?_) (fun h => ?_))
    | (with_reducible refine Test.ne (fun h => ?_) (fun h => ?_))
    | ((with_reducible refine Test.b ?_ ?_); (focus first | assumption | (simp [negB]; done) | exact rfl))
    | ((with_reducible refine Test.nb ?_ ?_); (focus first | assumption | (simp [negB]; done) | exact rfl))
    | (with_reducible refine Test.notS (fun h => ?_) (fun h => ?_))
    | (with_reducible refine Test.mk (fun h => ?_) (fun h => ?_))
    | ((with_reducible refine Arith.tdiv ?_ ?_); omega)
    | (with_reducible refine Arith.bv8 ?_)
    | (with_reducible refine Arith.bv16 ?_)
    | (with_reducible refine Arith.bv32 ?_)
    | (with_reducible refine Arith.bv64 ?_)
    | ((with_reducible refine Arith.i64 ?_ ?_); omega)
    | ((with_reducible refine Arith.u64 ?_ ?_); omega)
    | ((with_reducible refine Arith.u32 ?_ ?_); omega)
    | ((with_reducible refine Arith.u16 ?_ ?_); omega)
    | ((with_reducible refine Arith.u8 ?_ ?_); omega)
    | ((with_reducible refine Arith.i32 ?_ ?_); omega)
    | ((with_reducible refine Arith.i64 ?_ ?_); simp (discharger := omega) only [Int.tdiv_eq_ediv_of_nonneg, shr_u8_4, shl_u8_4, shr_u16_4, shl_u16_4, shr_u16_8, shl_u16_8, shr_u32_4, shl_u32_4, shr_u32_8, shl_u32_8, shr_u32_16, shl_u32_16, shr_u32_24, shl_u32_24, shr_u64_4, shl_u64_4, shr_u64_8, shl_u64_8, shr_u64_16, shl_u64_16, shr_u64_24, shl_u64_24, shr_u64_40, shl_u64_40, shr_i64_4, shl_i64_4, shr_i64_8, shl_i64_8, shr_i64_16, shl_i64_16, shr_i64_24, shl_i64_24, shr_i64_40, shl_i64_40]; omega)
    | ((with_reducible refine Arith.u64 ?_ ?_); simp (discharger := omega) only [Int.tdiv_eq_ediv_of_nonneg, shr_u8_4, shl_u8_4, shr_u16_4, shl_u16_4, shr_u16_8, shl_u16_8, shr_u32_4, shl_u32_4, shr_u32_8, shl_u32_8, shr_u32_16, shl_u32_16, shr_u32_24, shl_u32_24, shr_u64_4, shl_u64_4, shr_u64_8, shl_u64_8, shr_u64_16, shl_u64_16, shr_u64_24, shl_u64_24, shr_u64_40, shl_u64_40, shr_i64_4, shl_i64_4, shr_i64_8, shl_i64_8, shr_i64_16, shl_i64_16, shr_i64_24, shl_i64_24, shr_i64_40, shl_i64_40]; omega)
    | ((with_reducible refine Arith.u32 ?_ ?_); simp (discharger := omega) only [Int.tdiv_eq_ediv_of_nonneg, shr_u8_4, shl_u8_4, shr_u16_4, shl_u16_4, shr_u16_8, shl_u16_8, shr_u32_4, shl_u32_4, shr_u32_8, shl_u32_8, shr_u32_16, shl_u32_16, shr_u32_24, shl_u32_24, shr_u64_4, shl_u64_4, shr_u64_8, shl_u64_8, shr_u64_16, shl_u64_16, shr_u64_24, shl_u64_24, shr_u64_40, shl_u64_40, shr_i64_4, shl_i64_4, shr_i64_8, shl_i64_8, shr_i64_16, shl_i64_16, shr_i64_24, shl_i64_24, shr_i64_40, shl_i64_40]; omega)
    | ((with_reducible refine Arith.u16 ?_ ?_); simp (discharger := omega) only [Int.tdiv_eq_ediv_of_nonneg, shr_u8_4, shl_u8_4, shr_u16_4, shl_u16_4, shr_u16_8, shl_u16_8, shr_u32_4, shl_u32_4, shr_u32_8, shl_u32_8, shr_u32_16, shl_u32_16, shr_u32_24, shl_u32_24, shr_u64_4, shl_u64_4, shr_u64_8, shl_u64_8, shr_u64_16, shl_u64_16, shr_u64_24, shl_u64_24, shr_u64_40, shl_u64_40, shr_i64_4, shl_i64_4, shr_i64_8, shl_i64_8, shr_i64_16, shl_i64_16, shr_i64_24, shl_i64_24, shr_i64_40, shl_i64_40]; omega)
    | ((with_reducible refine Arith.u8 ?_ ?_); simp (discharger := omega) only [Int.tdiv_eq_ediv_of_nonneg, shr_u8_4, shl_u8_4, shr_u16_4, shl_u16_4, shr_u16_8, shl_u16_8, shr_u32_4, shl_u32_4, shr_u32_8, shl_u32_8, shr_u32_16, shl_u32_16, shr_u32_24, shl_u32_24, shr_u64_4, shl_u64_4, shr_u64_8, shl_u64_8, shr_u64_16, shl_u64_16, shr_u64_24, shl_u64_24, shr_u64_40, shl_u64_40, shr_i64_4, shl_i64_4, shr_i64_8, shl_i64_8, shr_i64_16, shl_i64_16, shr_i64_24, shl_i64_24, shr_i64_40, shl_i64_40]; omega)
    | (with_reducible refine Arith.mk ?_)
    | (with_reducible refine Ends.mk ?_))
  all_goals first
    | exact ⟨rfl, rfl⟩
set_option maxHeartbeats 4000000 in
theorem spu_2 (hG : Tabs G) (s : ByteArray) (hs : s.size ≤ 1000000) (hk : (pu16 s).2 = 2) : Det G Tryd.prog 49 [.o (.str s), .o (.int .i64 16), .o (.int .i64 48)] [] (.t [.o (.int .u64 (pu16 s).1), .o .any]) [] := by
  refine can_of_W known mix Tryd.func49 (by kernel_rfl) ok_strconv_ParseUint (Nat.le_of_ble_eq_true rfl) ?_
  repeat' ((conv => whnf); first
    | ((with_reducible refine Look.mk ?_); refine ⟨_, rfl, ?_⟩)
    | ((with_reducible refine LookN.zeros ?_))
    | ((with_reducible refine LookN.bytes ?_ ?_); (simp; done))
    | ((with_reducible refine BytesW.bytes ?_))
    | ((with_reducible refine Look.byte ?_ ?_); omega)
    | ((with_reducible refine Look.setb ?_ ?_ ?_); exact bv8_bd _; omega)
    | ((with_reducible refine LookN.setb ?_ ?_ ?_); exact bv8_bd _; omega)
    | ((with_reducible refine LookN.mk ?_); refine ⟨_, rfl, ?_⟩)
    | ((with_reducible refine Need.mk ?_ ?_); first | ((with_reducible refine needB ?_); kernel_rfl) | with_reducible rfl | omega | (with_reducible refine ⟨rfl, ?_⟩; focus omega) | (simp only [ByteArray.size_append, size_lit, List.size_toArray, List.length_cons, List.length_nil]; omega) | exact rfl | trivial | exact Nat.le_of_ble_eq_true rfl | (exact ⟨rfl, by omega⟩) | (intro h; first | rfl | cases h) | (simp only [lenS_text, lenS_setN, lenS_zeros]; omega))
    | ((with_reducible refine BytesW.mk ?_); refine ⟨_, rfl, ?_⟩)
    | (with_reducible refine CallW.det (toerr_syn hG _ _ (by omega)) ?_)
    | (with_reducible refine CallW.det (pu16_as _ 2 hk (by omega)) ?_)
    | ((with_reducible refine WrT.same ?_ ?_); focus (repeat (first | exact trivial | ((conv => whnf); refine ⟨rfl, ?_⟩))))
    | (with_reducible refine WrT.all ?_)
    | ((with_reducible refine Test.tmodEqT ?_ ?_ ?_); omega; focus first | omega | assumption)
    | ((with_reducible refine Test.tmodEqF ?_ ?_ ?_); omega; focus first | omega | assumption)
    | ((with_reducible refine Test.tmodNeT ?_ ?_ ?_); omega; focus first | omega | assumption)
    | ((with_reducible refine Test.tmodNeF ?_ ?_ ?_); omega; focus first | omega | assumption)
    | ((with_reducible refine Test.tmodEq ?_ (fun h => ?_) (fun h => ?_)); omega)
    | ((with_reducible refine Test.tmodNe ?_ (fun h => ?_) (fun h => ?_)); omega)
    | ((with_reducible refine Test.notT ?_ ?_); focus assumption)
    | ((with_reducible refine Test.notF ?_ ?_); focus assumption)
    | (with_reducible refine Test.notIe (fun h => ?_) (fun h => ?_))
    | (with_reducible refine Test.notD (fun h => ?_) (fun h => ?_))
    | ((with_reducible refine Test.empty (fun h => ?_) (fun h => ?_)))
    | (with_reducible refine Test.tt ?_)
    | (with_reducible refine Test.ff ?_)
    | ((with_reducible refine Test.dt ?_ ?_); omega)
    | ((with_reducible refine Test.df ?_ ?_); omega)
    | (with_reducible refine Test.d (fun h => ?_) (fun h => ?_))
    | ((with_reducible refine Test.ieT ?_ ?_); omega)
    | ((with_reducible refine Test.ieF ?_ ?_); omega)
    | ((with_reducible refine Test.neT ?_ ?_); omega)
    | ((with_reducible refine Test.neF ?_ ?_); omega)
    | (with_reducible refine Test.ie (fun h => ?_) (fun h => ?_))
    | (with_reducible refine Test.ne (fun h => ?_) (fun h => ?_))
    | ((with_reducible refine Test.b ?_ ?_); (focus first | assumption | (simp [negB]; done) | exact rfl))
    | ((with_reducible refine Test.nb ?_ ?_); (focus first | assumption | (simp [negB]; done) | exact rfl))
    | (with_reducible refine Test.notS (fun h => ?_) (fun h => ?_))
    | (with_reducible refine Test.mk (fun h => ?_) (fun h => ?_))
    | ((with_reducible refine Arith.tdiv ?_ ?_); omega)
    | (with_reducible refine Arith.bv8 ?_)
    | (with_reducible refine Arith.bv16 ?_)
    | (with_reducible refine Arith.bv32 ?_)
    | (with_reducible refine Arith.bv64 ?_)
    | ((with_reducible refine Arith.i64 ?_ ?_); omega)
    | ((with_reducible refine Arith.u64 ?_ ?_); omega)
    | ((with_reducible refine Arith.u32 ?_ ?_); omega)
    | ((with_reducible refine Arith.u16 ?_ ?_); omega)
    | ((with_reducible refine Arith.u8 ?_ ?_); omega)
    | ((with_reducible refine Arith.i32 ?_ ?_); omega)
    | ((with_reducible refine Arith.i64 ?_ ?_); simp (discharger := omega) only [Int.tdiv_eq_ediv_of_nonneg, shr_u8_4, shl_u8_4, shr_u16_4, shl_u16_4, shr_u16_8, shl_u16_8, shr_u32_4, shl_u32_4, shr_u32_8, shl_u32_8, shr_u32_16, shl_u32_16, shr_u32_24, shl_u32_24, shr_u64_4, shl_u64_4, shr_u64_8, shl_u64_8, shr_u64_16, shl_u64_16, shr_u64_24, shl_u64_24, shr_u64_40, shl_u64_40, shr_i64_4, shl_i64_4, shr_i64_8, shl_i64_8, shr_i64_16, shl_i64_16, shr_i64_24, shl_i64_24, shr_i64_40, shl_i64_40]; omega)
    | ((with_reducible refine Arith.u64 ?_ ?_); simp (discharger := omega) only [Int.tdiv_eq_ediv_of_nonneg, shr_u8_4, shl_u8_4, shr_u16_4, shl_u16_4, shr_u16_8, shl_u16_8, shr_u32_4, shl_u32_4, shr_u32_8, shl_u32_8, shr_u32_16, shl_u32_16, shr_u32_24, shl_u32_24, shr_u64_4, shl_u64_4, shr_u64_8, shl_u64_8, shr_u64_16, shl_u64_16, shr_u64_24, shl_u64_24, shr_u64_40, shl_u64_40, shr_i64_4, shl_i64_4, shr_i64_8, shl_i64_8, shr_i64_16, shl_i64_16, shr_i64_24, shl_i64_24, shr_i64_40, shl_i64_40]; omega)
    | ((with_reducible refine Arith.u32 ?_ ?_); simp (discharger := omega) only [Int.tdiv_eq_ediv_of_nonneg, shr_u8_4, shl_u8_4, shr_u16_4, shl_u16_4, shr_u16_8, shl_u16_8, shr_u32_4, shl_u32_4, shr_u32_8, shl_u32_8, shr_u32_16, shl_u32_16, shr_u32_24, shl_u32_24, shr_u64_4, shl_u64_4, shr_u64_8, shl_u64_8, shr_u64_16, shl_u64_16, shr_u64_24, shl_u64_24, shr_u64_40, shl_u64_40, shr_i64_4, shl_i64_4, shr_i64_8, shl_i64_8, shr_i64_16, shl_i64_16, shr_i64_24, shl_i64_24, shr_i64_40, shl_i64_40]; omega)
    | ((with_reducible refine Arith.u16 ?_ ?_); simp (discharger := omega) only [Int.tdiv_eq_ediv_of_nonneg, shr_u8_4, shl_u8_4, shr_u16_4, shl_u16_4, shr_u16_8, shl_u16_8, shr_u32_4, shl_u32_4, shr_u32_8, shl_u32_8, shr_u32_16, shl_u32_16, shr_u32_24, shl_u32_24, shr_u64_4, shl_u64_4, shr_u64_8, shl_u64_8, shr_u64_16, shl_u64_16, shr_u64_24, shl_u64_24, shr_u64_40, shl_u64_40, shr_i64_4, shl_i64_4, shr_i64_8, shl_i64_8, shr_i64_16, shl_i64_16, shr_i64_24, shl_i64_24, shr_i64_40, shl_i64_40]; omega)
    | ((with_reducible refine Arith.u8 ?_ ?_); simp (discharger := omega) only [Int.tdiv_eq_ediv_of_nonneg, shr_u8_4, shl_u8_4, shr_u16_4, shl_u16_4, shr_u16_8, shl_u16_8, shr_u32_4, shl_u32_4, shr_u32_8, shl_u32_8, shr_u32_16, shl_u32_16, shr_u32_24, shl_u32_24, shr_u64_4, shl_u64_4, shr_u64_8, shl_u64_8, shr_u64_16, shl_u64_16, shr_u64_24, shl_u64_24, shr_u64_40, shl_u64_40, shr_i64_4, shl_i64_4, shr_i64_8, shl_i64_8, shr_i64_16, shl_i64_16, shr_i64_24, shl_i64_24, shr_i64_40, shl_i64_40]; omega)
    | (with_reducible refine Arith.mk ?_)
    | (with_reducible refine Ends.mk ?_))
  all_goals first
    | exact ⟨rfl, rfl⟩
end G4
end Go.Proofs.YtnikpanebkknfaaDoor.VM

namespace Go.Proofs.YtnikpanebkknfaaDoor.VM
namespace G4
open Go.RowKit
set_option linter.unusedVariables false
set_option linter.unusedSimpArgs false
set_option maxRecDepth 100000
variable {G : Ground}
def vf_ether_Parse : VFn := ⟨(.seq (.reg [
    ⟨(some 2), .mv (.c (.p (.o (.int .u64 0)))), none, 0⟩,
    ⟨(some 3), .mv (.c (.p (.o (.int .i64 0)))), none, 0⟩] 0 none) (.seq (.reg [
    ⟨(some 7), .mv (.t 0), none, 0⟩,
    ⟨(some 8), .call 63 [(.t 7), (.c (.p (.o (.str ⟨#[58]⟩)))), (.c (.p (.o (.str ⟨#[]⟩))))] 0, none, 0⟩,
    ⟨(some 9), .call 49 [(.t 8), (.c (.p (.o (.int .i64 16)))), (.c (.p (.o (.int .i64 48))))] 0, none, 0⟩,
    ⟨(some 6), .mv (.t 9), none, 0⟩,
    ⟨(some 10), .ext 0 (.t 6), none, 0⟩,
    ⟨(some 11), .ext 1 (.t 6), none, 0⟩,
    ⟨(some 4), .mv (.t 10), none, 0⟩,
    ⟨(some 5), .mv (.t 11), none, 0⟩] 0 none) (.seq (.seq (.reg [
    ⟨(some 12), .mv (.t 4), none, 0⟩,
    ⟨(some 13), .call 38 [(.t 12)] 0, none, 0⟩,
    ⟨(some 14), .mv (.t 0), none, 0⟩,
    ⟨(some 15), .bin .neq (.t 13) (.t 14), none, 0⟩] 0 none) (.cond (.t 15) (.seq (.reg [
    ⟨(some 2), .mv (.c (.p (.o (.int .u64 0)))), none, 0⟩,
    ⟨(some 3), .mv (.c (.p (.o (.int .i64 8)))), none, 0⟩] 0 none) .ret) .skip)) (.seq (.reg [
    ⟨(some 16), .mv (.t 4), none, 0⟩,
    ⟨(some 2), .mv (.t 16), none, 0⟩,
    ⟨(some 3), .mv (.c (.p (.o (.int .i64 0)))), none, 0⟩] 0 none) .ret)))),
  [.tmp 2, .tmp 3], 17, [0, 2, 3, 4]⟩
theorem ok_ether_Parse : cFn Tryd.prog eqsT newsT vf_ether_Parse.keep Tryd.f36 = some vf_ether_Parse := by kernel_rfl
theorem pu16L_bd : ∀ (l : List UInt8) (n : Int), 0 ≤ n ∧ n ≤ 281474976710655 → 0 ≤ (pu16L n l).1 ∧ (pu16L n l).1 ≤ 281474976710655
  | [], n, h => h
  | c :: l, n, h => by
    have hd : 0 ≤ digU c.toNat := by
      unfold digU; split
      · omega
      · split <;> omega
    rw [pu16L]
    split
    · exact ⟨Int.le_refl _, by decide⟩
    · split
      · exact ⟨by decide, Int.le_refl _⟩
      · exact pu16L_bd l _ (by omega)
theorem pu16_bd (s : ByteArray) : 0 ≤ (pu16 s).1 ∧ (pu16 s).1 ≤ 281474976710655 := by
  unfold pu16; split
  · exact ⟨Int.le_refl _, by decide⟩
  · exact pu16L_bd _ _ (by omega)
theorem nocol_size (s : ByteArray) : (replB s ⟨#[58]⟩ ⟨#[]⟩).size ≤ s.size := by
  have e : (replB s ⟨#[58]⟩ ⟨#[]⟩).data.toList = s.data.toList.filter (· != 58) := replB58 s
  have := List.length_filter_le (· != (58 : UInt8)) s.data.toList
  rw [← e] at this
  simpa using this
theorem nocol_det (hG : Tabs G) (s : ByteArray) (hs : s.size ≤ 1000000) : Det G Tryd.prog 63 [.o (.str s), .o (.str ⟨#[58]⟩), .o (.str ⟨#[]⟩)] [] (vS (replB s ⟨#[58]⟩ ⟨#[]⟩)) [] :=
  repl_det hG s ⟨#[58]⟩ ⟨#[]⟩ (by decide) (by omega) (by rw [show (⟨#[]⟩ : ByteArray).size = 0 from rfl]; omega)
/-- What a text is read as, if it is an address's. -/
def qA (s : ByteArray) : Int := (pu16 (replB s ⟨#[58]⟩ ⟨#[]⟩)).1
def pvA (s : ByteArray) : Int := if macB (qA s) = s then qA s else 0
def peA (s : ByteArray) : Int := if macB (qA s) = s then 0 else 8
theorem pA_yes {s : ByteArray} (h : macB (pu16 (replB s ⟨#[58]⟩ ⟨#[]⟩)).1 = s) : V.t [.o (.int .u64 (pu16 (replB s ⟨#[58]⟩ ⟨#[]⟩)).1), .o (.int .i64 0)] = .t [.o (.int .u64 (pvA s)), .o (.int .i64 (peA s))] := by unfold pvA peA qA; rw [if_pos h, if_pos h]
theorem pA_no {s : ByteArray} (h : ¬ macB (pu16 (replB s ⟨#[58]⟩ ⟨#[]⟩)).1 = s) : V.t [.o (.int .u64 0), .o (.int .i64 8)] = .t [.o (.int .u64 (pvA s)), .o (.int .i64 (peA s))] := by unfold pvA peA qA; rw [if_neg h, if_neg h]
theorem beq_bytes {a b : ByteArray} (h : (a.toList == b.toList) = true) : a = b := by
  have h := eq_of_beq h
  rw [ByteArray.toList_eq, ByteArray.toList_eq] at h
  exact ByteArray.ext (Array.toList_inj.1 h)
theorem bne_bytes {a b : ByteArray} (h : (a.toList == b.toList) = false) : ¬ a = b := fun e => by subst e; simp at h
set_option maxHeartbeats 4000000 in
theorem eparse_det (hG : Tabs G) (h7 : 8 ≤ G.n) (htz : G.w0.cell? ⟨7, 15, none⟩ = some (.int .u8 4)) (s : ByteArray) (hs : s.size ≤ 1000000) : Det G Tryd.prog 36 [.o (.str s)] [] (.t [.o (.int .u64 (pvA s)), .o (.int .i64 (peA s))]) [] := by
  have hz := nocol_size s
  have hb := pu16_bd (replB s ⟨#[58]⟩ ⟨#[]⟩)
  rcases pu16_err (replB s ⟨#[58]⟩ ⟨#[]⟩) with hk | hk | hk
  · refine can_of_W known mix Tryd.func36 (by kernel_rfl) ok_ether_Parse (Nat.le_of_ble_eq_true rfl) ?_
    repeat' ((conv => whnf); first
    | ((with_reducible refine Look.mk ?_); refine ⟨_, rfl, ?_⟩)
    | ((with_reducible refine LookN.zeros ?_))
    | ((with_reducible refine LookN.bytes ?_ ?_); (simp; done))
    | ((with_reducible refine BytesW.bytes ?_))
    | ((with_reducible refine Look.byte ?_ ?_); omega)
    | ((with_reducible refine Look.setb ?_ ?_ ?_); exact bv8_bd _; omega)
    | ((with_reducible refine LookN.setb ?_ ?_ ?_); exact bv8_bd _; omega)
    | ((with_reducible refine LookN.mk ?_); refine ⟨_, rfl, ?_⟩)
    | ((with_reducible refine Need.mk ?_ ?_); first | ((with_reducible refine needB ?_); kernel_rfl) | with_reducible rfl | omega | (with_reducible refine ⟨rfl, ?_⟩; focus omega) | (simp only [ByteArray.size_append, size_lit, List.size_toArray, List.length_cons, List.length_nil]; omega) | exact rfl | trivial | exact Nat.le_of_ble_eq_true rfl | (exact ⟨rfl, by omega⟩) | (intro h; first | rfl | cases h) | (simp only [lenS_text, lenS_setN, lenS_zeros]; omega))
    | ((with_reducible refine BytesW.mk ?_); refine ⟨_, rfl, ?_⟩)
    | (with_reducible refine CallW.det (nocol_det hG _ (by omega)) ?_)
    | (with_reducible refine CallW.det (spu_0 hG _ (by omega) hk) ?_)
    | (with_reducible refine CallW.det (mtext_det h7 htz _ (by omega)) ?_)
    | ((with_reducible refine WrT.same ?_ ?_); focus (repeat (first | exact trivial | ((conv => whnf); refine ⟨rfl, ?_⟩))))
    | (with_reducible refine WrT.all ?_)
    | ((with_reducible refine Test.tmodEqT ?_ ?_ ?_); omega; focus first | omega | assumption)
    | ((with_reducible refine Test.tmodEqF ?_ ?_ ?_); omega; focus first | omega | assumption)
    | ((with_reducible refine Test.tmodNeT ?_ ?_ ?_); omega; focus first | omega | assumption)
    | ((with_reducible refine Test.tmodNeF ?_ ?_ ?_); omega; focus first | omega | assumption)
    | ((with_reducible refine Test.tmodEq ?_ (fun h => ?_) (fun h => ?_)); omega)
    | ((with_reducible refine Test.tmodNe ?_ (fun h => ?_) (fun h => ?_)); omega)
    | ((with_reducible refine Test.notT ?_ ?_); focus assumption)
    | ((with_reducible refine Test.notF ?_ ?_); focus assumption)
    | (with_reducible refine Test.notIe (fun h => ?_) (fun h => ?_))
    | (with_reducible refine Test.notD (fun h => ?_) (fun h => ?_))
    | ((with_reducible refine Test.empty (fun h => ?_) (fun h => ?_)))
    | (with_reducible refine Test.tt ?_)
    | (with_reducible refine Test.ff ?_)
    | ((with_reducible refine Test.dt ?_ ?_); omega)
    | ((with_reducible refine Test.df ?_ ?_); omega)
    | (with_reducible refine Test.d (fun h => ?_) (fun h => ?_))
    | ((with_reducible refine Test.ieT ?_ ?_); omega)
    | ((with_reducible refine Test.ieF ?_ ?_); omega)
    | ((with_reducible refine Test.neT ?_ ?_); omega)
    | ((with_reducible refine Test.neF ?_ ?_); omega)
    | (with_reducible refine Test.ie (fun h => ?_) (fun h => ?_))
    | (with_reducible refine Test.ne (fun h => ?_) (fun h => ?_))
    | ((with_reducible refine Test.b ?_ ?_); (focus first | assumption | (simp [negB]; done) | exact rfl))
    | ((with_reducible refine Test.nb ?_ ?_); (focus first | assumption | (simp [negB]; done) | exact rfl))
    | (with_reducible refine Test.notS (fun h => ?_) (fun h => ?_))
    | (with_reducible refine Test.mk (fun h => ?_) (fun h => ?_))
    | ((with_reducible refine Arith.tdiv ?_ ?_); omega)
    | (with_reducible refine Arith.bv8 ?_)
    | (with_reducible refine Arith.bv16 ?_)
    | (with_reducible refine Arith.bv32 ?_)
    | (with_reducible refine Arith.bv64 ?_)
    | ((with_reducible refine Arith.i64 ?_ ?_); omega)
    | ((with_reducible refine Arith.u64 ?_ ?_); omega)
    | ((with_reducible refine Arith.u32 ?_ ?_); omega)
    | ((with_reducible refine Arith.u16 ?_ ?_); omega)
    | ((with_reducible refine Arith.u8 ?_ ?_); omega)
    | ((with_reducible refine Arith.i32 ?_ ?_); omega)
    | ((with_reducible refine Arith.i64 ?_ ?_); simp (discharger := omega) only [Int.tdiv_eq_ediv_of_nonneg, shr_u8_4, shl_u8_4, shr_u16_4, shl_u16_4, shr_u16_8, shl_u16_8, shr_u32_4, shl_u32_4, shr_u32_8, shl_u32_8, shr_u32_16, shl_u32_16, shr_u32_24, shl_u32_24, shr_u64_4, shl_u64_4, shr_u64_8, shl_u64_8, shr_u64_16, shl_u64_16, shr_u64_24, shl_u64_24, shr_u64_40, shl_u64_40, shr_i64_4, shl_i64_4, shr_i64_8, shl_i64_8, shr_i64_16, shl_i64_16, shr_i64_24, shl_i64_24, shr_i64_40, shl_i64_40]; omega)
    | ((with_reducible refine Arith.u64 ?_ ?_); simp (discharger := omega) only [Int.tdiv_eq_ediv_of_nonneg, shr_u8_4, shl_u8_4, shr_u16_4, shl_u16_4, shr_u16_8, shl_u16_8, shr_u32_4, shl_u32_4, shr_u32_8, shl_u32_8, shr_u32_16, shl_u32_16, shr_u32_24, shl_u32_24, shr_u64_4, shl_u64_4, shr_u64_8, shl_u64_8, shr_u64_16, shl_u64_16, shr_u64_24, shl_u64_24, shr_u64_40, shl_u64_40, shr_i64_4, shl_i64_4, shr_i64_8, shl_i64_8, shr_i64_16, shl_i64_16, shr_i64_24, shl_i64_24, shr_i64_40, shl_i64_40]; omega)
    | ((with_reducible refine Arith.u32 ?_ ?_); simp (discharger := omega) only [Int.tdiv_eq_ediv_of_nonneg, shr_u8_4, shl_u8_4, shr_u16_4, shl_u16_4, shr_u16_8, shl_u16_8, shr_u32_4, shl_u32_4, shr_u32_8, shl_u32_8, shr_u32_16, shl_u32_16, shr_u32_24, shl_u32_24, shr_u64_4, shl_u64_4, shr_u64_8, shl_u64_8, shr_u64_16, shl_u64_16, shr_u64_24, shl_u64_24, shr_u64_40, shl_u64_40, shr_i64_4, shl_i64_4, shr_i64_8, shl_i64_8, shr_i64_16, shl_i64_16, shr_i64_24, shl_i64_24, shr_i64_40, shl_i64_40]; omega)
    | ((with_reducible refine Arith.u16 ?_ ?_); simp (discharger := omega) only [Int.tdiv_eq_ediv_of_nonneg, shr_u8_4, shl_u8_4, shr_u16_4, shl_u16_4, shr_u16_8, shl_u16_8, shr_u32_4, shl_u32_4, shr_u32_8, shl_u32_8, shr_u32_16, shl_u32_16, shr_u32_24, shl_u32_24, shr_u64_4, shl_u64_4, shr_u64_8, shl_u64_8, shr_u64_16, shl_u64_16, shr_u64_24, shl_u64_24, shr_u64_40, shl_u64_40, shr_i64_4, shl_i64_4, shr_i64_8, shl_i64_8, shr_i64_16, shl_i64_16, shr_i64_24, shl_i64_24, shr_i64_40, shl_i64_40]; omega)
    | ((with_reducible refine Arith.u8 ?_ ?_); simp (discharger := omega) only [Int.tdiv_eq_ediv_of_nonneg, shr_u8_4, shl_u8_4, shr_u16_4, shl_u16_4, shr_u16_8, shl_u16_8, shr_u32_4, shl_u32_4, shr_u32_8, shl_u32_8, shr_u32_16, shl_u32_16, shr_u32_24, shl_u32_24, shr_u64_4, shl_u64_4, shr_u64_8, shl_u64_8, shr_u64_16, shl_u64_16, shr_u64_24, shl_u64_24, shr_u64_40, shl_u64_40, shr_i64_4, shl_i64_4, shr_i64_8, shl_i64_8, shr_i64_16, shl_i64_16, shr_i64_24, shl_i64_24, shr_i64_40, shl_i64_40]; omega)
    | (with_reducible refine Arith.mk ?_)
    | (with_reducible refine Ends.mk ?_))
    all_goals first
      | (refine ⟨pA_yes ?_, rfl⟩; first | assumption | exact beq_bytes (by assumption))
      | (refine ⟨pA_no ?_, rfl⟩; first | assumption | exact bne_bytes (by assumption))
     
  · refine can_of_W known mix Tryd.func36 (by kernel_rfl) ok_ether_Parse (Nat.le_of_ble_eq_true rfl) ?_
    repeat' ((conv => whnf); first
    | ((with_reducible refine Look.mk ?_); refine ⟨_, rfl, ?_⟩)
    | ((with_reducible refine LookN.zeros ?_))
    | ((with_reducible refine LookN.bytes ?_ ?_); (simp; done))
    | ((with_reducible refine BytesW.bytes ?_))
    | ((with_reducible refine Look.byte ?_ ?_); omega)
    | ((with_reducible refine Look.setb ?_ ?_ ?_); exact bv8_bd _; omega)
    | ((with_reducible refine LookN.setb ?_ ?_ ?_); exact bv8_bd _; omega)
    | ((with_reducible refine LookN.mk ?_); refine ⟨_, rfl, ?_⟩)
    | ((with_reducible refine Need.mk ?_ ?_); first | ((with_reducible refine needB ?_); kernel_rfl) | with_reducible rfl | omega | (with_reducible refine ⟨rfl, ?_⟩; focus omega) | (simp only [ByteArray.size_append, size_lit, List.size_toArray, List.length_cons, List.length_nil]; omega) | exact rfl | trivial | exact Nat.le_of_ble_eq_true rfl | (exact ⟨rfl, by omega⟩) | (intro h; first | rfl | cases h) | (simp only [lenS_text, lenS_setN, lenS_zeros]; omega))
    | ((with_reducible refine BytesW.mk ?_); refine ⟨_, rfl, ?_⟩)
    | (with_reducible refine CallW.det (nocol_det hG _ (by omega)) ?_)
    | (with_reducible refine CallW.det (spu_1 hG _ (by omega) hk) ?_)
    | (with_reducible refine CallW.det (mtext_det h7 htz _ (by omega)) ?_)
    | ((with_reducible refine WrT.same ?_ ?_); focus (repeat (first | exact trivial | ((conv => whnf); refine ⟨rfl, ?_⟩))))
    | (with_reducible refine WrT.all ?_)
    | ((with_reducible refine Test.tmodEqT ?_ ?_ ?_); omega; focus first | omega | assumption)
    | ((with_reducible refine Test.tmodEqF ?_ ?_ ?_); omega; focus first | omega | assumption)
    | ((with_reducible refine Test.tmodNeT ?_ ?_ ?_); omega; focus first | omega | assumption)
    | ((with_reducible refine Test.tmodNeF ?_ ?_ ?_); omega; focus first | omega | assumption)
    | ((with_reducible refine Test.tmodEq ?_ (fun h => ?_) (fun h => ?_)); omega)
    | ((with_reducible refine Test.tmodNe ?_ (fun h => ?_) (fun h => ?_)); omega)
    | ((with_reducible refine Test.notT ?_ ?_); focus assumption)
    | ((with_reducible refine Test.notF ?_ ?_); focus assumption)
    | (with_reducible refine Test.notIe (fun h => ?_) (fun h => ?_))
    | (with_reducible refine Test.notD (fun h => ?_) (fun h => ?_))
    | ((with_reducible refine Test.empty (fun h => ?_) (fun h => ?_)))
    | (with_reducible refine Test.tt ?_)
    | (with_reducible refine Test.ff ?_)
    | ((with_reducible refine Test.dt ?_ ?_); omega)
    | ((with_reducible refine Test.df ?_ ?_); omega)
    | (with_reducible refine Test.d (fun h => ?_) (fun h => ?_))
    | ((with_reducible refine Test.ieT ?_ ?_); omega)
    | ((with_reducible refine Test.ieF ?_ ?_); omega)
    | ((with_reducible refine Test.neT ?_ ?_); omega)
    | ((with_reducible refine Test.neF ?_ ?_); omega)
    | (with_reducible refine Test.ie (fun h => ?_) (fun h => ?_))
    | (with_reducible refine Test.ne (fun h => ?_) (fun h => ?_))
    | ((with_reducible refine Test.b ?_ ?_); (focus first | assumption | (simp [negB]; done) | exact rfl))
    | ((with_reducible refine Test.nb ?_ ?_); (focus first | assumption | (simp [negB]; done) | exact rfl))
    | (with_reducible refine Test.notS (fun h => ?_) (fun h => ?_))
    | (with_reducible refine Test.mk (fun h => ?_) (fun h => ?_))
    | ((with_reducible refine Arith.tdiv ?_ ?_); omega)
    | (with_reducible refine Arith.bv8 ?_)
    | (with_reducible refine Arith.bv16 ?_)
    | (with_reducible refine Arith.bv32 ?_)
    | (with_reducible refine Arith.bv64 ?_)
    | ((with_reducible refine Arith.i64 ?_ ?_); omega)
    | ((with_reducible refine Arith.u64 ?_ ?_); omega)
    | ((with_reducible refine Arith.u32 ?_ ?_); omega)
    | ((with_reducible refine Arith.u16 ?_ ?_); omega)
    | ((with_reducible refine Arith.u8 ?_ ?_); omega)
    | ((with_reducible refine Arith.i32 ?_ ?_); omega)
    | ((with_reducible refine Arith.i64 ?_ ?_); simp (discharger := omega) only [Int.tdiv_eq_ediv_of_nonneg, shr_u8_4, shl_u8_4, shr_u16_4, shl_u16_4, shr_u16_8, shl_u16_8, shr_u32_4, shl_u32_4, shr_u32_8, shl_u32_8, shr_u32_16, shl_u32_16, shr_u32_24, shl_u32_24, shr_u64_4, shl_u64_4, shr_u64_8, shl_u64_8, shr_u64_16, shl_u64_16, shr_u64_24, shl_u64_24, shr_u64_40, shl_u64_40, shr_i64_4, shl_i64_4, shr_i64_8, shl_i64_8, shr_i64_16, shl_i64_16, shr_i64_24, shl_i64_24, shr_i64_40, shl_i64_40]; omega)
    | ((with_reducible refine Arith.u64 ?_ ?_); simp (discharger := omega) only [Int.tdiv_eq_ediv_of_nonneg, shr_u8_4, shl_u8_4, shr_u16_4, shl_u16_4, shr_u16_8, shl_u16_8, shr_u32_4, shl_u32_4, shr_u32_8, shl_u32_8, shr_u32_16, shl_u32_16, shr_u32_24, shl_u32_24, shr_u64_4, shl_u64_4, shr_u64_8, shl_u64_8, shr_u64_16, shl_u64_16, shr_u64_24, shl_u64_24, shr_u64_40, shl_u64_40, shr_i64_4, shl_i64_4, shr_i64_8, shl_i64_8, shr_i64_16, shl_i64_16, shr_i64_24, shl_i64_24, shr_i64_40, shl_i64_40]; omega)
    | ((with_reducible refine Arith.u32 ?_ ?_); simp (discharger := omega) only [Int.tdiv_eq_ediv_of_nonneg, shr_u8_4, shl_u8_4, shr_u16_4, shl_u16_4, shr_u16_8, shl_u16_8, shr_u32_4, shl_u32_4, shr_u32_8, shl_u32_8, shr_u32_16, shl_u32_16, shr_u32_24, shl_u32_24, shr_u64_4, shl_u64_4, shr_u64_8, shl_u64_8, shr_u64_16, shl_u64_16, shr_u64_24, shl_u64_24, shr_u64_40, shl_u64_40, shr_i64_4, shl_i64_4, shr_i64_8, shl_i64_8, shr_i64_16, shl_i64_16, shr_i64_24, shl_i64_24, shr_i64_40, shl_i64_40]; omega)
    | ((with_reducible refine Arith.u16 ?_ ?_); simp (discharger := omega) only [Int.tdiv_eq_ediv_of_nonneg, shr_u8_4, shl_u8_4, shr_u16_4, shl_u16_4, shr_u16_8, shl_u16_8, shr_u32_4, shl_u32_4, shr_u32_8, shl_u32_8, shr_u32_16, shl_u32_16, shr_u32_24, shl_u32_24, shr_u64_4, shl_u64_4, shr_u64_8, shl_u64_8, shr_u64_16, shl_u64_16, shr_u64_24, shl_u64_24, shr_u64_40, shl_u64_40, shr_i64_4, shl_i64_4, shr_i64_8, shl_i64_8, shr_i64_16, shl_i64_16, shr_i64_24, shl_i64_24, shr_i64_40, shl_i64_40]; omega)
    | ((with_reducible refine Arith.u8 ?_ ?_); simp (discharger := omega) only [Int.tdiv_eq_ediv_of_nonneg, shr_u8_4, shl_u8_4, shr_u16_4, shl_u16_4, shr_u16_8, shl_u16_8, shr_u32_4, shl_u32_4, shr_u32_8, shl_u32_8, shr_u32_16, shl_u32_16, shr_u32_24, shl_u32_24, shr_u64_4, shl_u64_4, shr_u64_8, shl_u64_8, shr_u64_16, shl_u64_16, shr_u64_24, shl_u64_24, shr_u64_40, shl_u64_40, shr_i64_4, shl_i64_4, shr_i64_8, shl_i64_8, shr_i64_16, shl_i64_16, shr_i64_24, shl_i64_24, shr_i64_40, shl_i64_40]; omega)
    | (with_reducible refine Arith.mk ?_)
    | (with_reducible refine Ends.mk ?_))
    all_goals first
      | (refine ⟨pA_yes ?_, rfl⟩; first | assumption | exact beq_bytes (by assumption))
      | (refine ⟨pA_no ?_, rfl⟩; first | assumption | exact bne_bytes (by assumption))
     
  · refine can_of_W known mix Tryd.func36 (by kernel_rfl) ok_ether_Parse (Nat.le_of_ble_eq_true rfl) ?_
    repeat' ((conv => whnf); first
    | ((with_reducible refine Look.mk ?_); refine ⟨_, rfl, ?_⟩)
    | ((with_reducible refine LookN.zeros ?_))
    | ((with_reducible refine LookN.bytes ?_ ?_); (simp; done))
    | ((with_reducible refine BytesW.bytes ?_))
    | ((with_reducible refine Look.byte ?_ ?_); omega)
    | ((with_reducible refine Look.setb ?_ ?_ ?_); exact bv8_bd _; omega)
    | ((with_reducible refine LookN.setb ?_ ?_ ?_); exact bv8_bd _; omega)
    | ((with_reducible refine LookN.mk ?_); refine ⟨_, rfl, ?_⟩)
    | ((with_reducible refine Need.mk ?_ ?_); first | ((with_reducible refine needB ?_); kernel_rfl) | with_reducible rfl | omega | (with_reducible refine ⟨rfl, ?_⟩; focus omega) | (simp only [ByteArray.size_append, size_lit, List.size_toArray, List.length_cons, List.length_nil]; omega) | exact rfl | trivial | exact Nat.le_of_ble_eq_true rfl | (exact ⟨rfl, by omega⟩) | (intro h; first | rfl | cases h) | (simp only [lenS_text, lenS_setN, lenS_zeros]; omega))
    | ((with_reducible refine BytesW.mk ?_); refine ⟨_, rfl, ?_⟩)
    | (with_reducible refine CallW.det (nocol_det hG _ (by omega)) ?_)
    | (with_reducible refine CallW.det (spu_2 hG _ (by omega) hk) ?_)
    | (with_reducible refine CallW.det (mtext_det h7 htz _ (by omega)) ?_)
    | ((with_reducible refine WrT.same ?_ ?_); focus (repeat (first | exact trivial | ((conv => whnf); refine ⟨rfl, ?_⟩))))
    | (with_reducible refine WrT.all ?_)
    | ((with_reducible refine Test.tmodEqT ?_ ?_ ?_); omega; focus first | omega | assumption)
    | ((with_reducible refine Test.tmodEqF ?_ ?_ ?_); omega; focus first | omega | assumption)
    | ((with_reducible refine Test.tmodNeT ?_ ?_ ?_); omega; focus first | omega | assumption)
    | ((with_reducible refine Test.tmodNeF ?_ ?_ ?_); omega; focus first | omega | assumption)
    | ((with_reducible refine Test.tmodEq ?_ (fun h => ?_) (fun h => ?_)); omega)
    | ((with_reducible refine Test.tmodNe ?_ (fun h => ?_) (fun h => ?_)); omega)
    | ((with_reducible refine Test.notT ?_ ?_); focus assumption)
    | ((with_reducible refine Test.notF ?_ ?_); focus assumption)
    | (with_reducible refine Test.notIe (fun h => ?_) (fun h => ?_))
    | (with_reducible refine Test.notD (fun h => ?_) (fun h => ?_))
    | ((with_reducible refine Test.empty (fun h => ?_) (fun h => ?_)))
    | (with_reducible refine Test.tt ?_)
    | (with_reducible refine Test.ff ?_)
    | ((with_reducible refine Test.dt ?_ ?_); omega)
    | ((with_reducible refine Test.df ?_ ?_); omega)
    | (with_reducible refine Test.d (fun h => ?_) (fun h => ?_))
    | ((with_reducible refine Test.ieT ?_ ?_); omega)
    | ((with_reducible refine Test.ieF ?_ ?_); omega)
    | ((with_reducible refine Test.neT ?_ ?_); omega)
    | ((with_reducible refine Test.neF ?_ ?_); omega)
    | (with_reducible refine Test.ie (fun h => ?_) (fun h => ?_))
    | (with_reducible refine Test.ne (fun h => ?_) (fun h => ?_))
    | ((with_reducible refine Test.b ?_ ?_); (focus first | assumption | (simp [negB]; done) | exact rfl))
    | ((with_reducible refine Test.nb ?_ ?_); (focus first | assumption | (simp [negB]; done) | exact rfl))
    | (with_reducible refine Test.notS (fun h => ?_) (fun h => ?_))
    | (with_reducible refine Test.mk (fun h => ?_) (fun h => ?_))
    | ((with_reducible refine Arith.tdiv ?_ ?_); omega)
    | (with_reducible refine Arith.bv8 ?_)
    | (with_reducible refine Arith.bv16 ?_)
    | (with_reducible refine Arith.bv32 ?_)
    | (with_reducible refine Arith.bv64 ?_)
    | ((with_reducible refine Arith.i64 ?_ ?_); omega)
    | ((with_reducible refine Arith.u64 ?_ ?_); omega)
    | ((with_reducible refine Arith.u32 ?_ ?_); omega)
    | ((with_reducible refine Arith.u16 ?_ ?_); omega)
    | ((with_reducible refine Arith.u8 ?_ ?_); omega)
    | ((with_reducible refine Arith.i32 ?_ ?_); omega)
    | ((with_reducible refine Arith.i64 ?_ ?_); simp (discharger := omega) only [Int.tdiv_eq_ediv_of_nonneg, shr_u8_4, shl_u8_4, shr_u16_4, shl_u16_4, shr_u16_8, shl_u16_8, shr_u32_4, shl_u32_4, shr_u32_8, shl_u32_8, shr_u32_16, shl_u32_16, shr_u32_24, shl_u32_24, shr_u64_4, shl_u64_4, shr_u64_8, shl_u64_8, shr_u64_16, shl_u64_16, shr_u64_24, shl_u64_24, shr_u64_40, shl_u64_40, shr_i64_4, shl_i64_4, shr_i64_8, shl_i64_8, shr_i64_16, shl_i64_16, shr_i64_24, shl_i64_24, shr_i64_40, shl_i64_40]; omega)
    | ((with_reducible refine Arith.u64 ?_ ?_); simp (discharger := omega) only [Int.tdiv_eq_ediv_of_nonneg, shr_u8_4, shl_u8_4, shr_u16_4, shl_u16_4, shr_u16_8, shl_u16_8, shr_u32_4, shl_u32_4, shr_u32_8, shl_u32_8, shr_u32_16, shl_u32_16, shr_u32_24, shl_u32_24, shr_u64_4, shl_u64_4, shr_u64_8, shl_u64_8, shr_u64_16, shl_u64_16, shr_u64_24, shl_u64_24, shr_u64_40, shl_u64_40, shr_i64_4, shl_i64_4, shr_i64_8, shl_i64_8, shr_i64_16, shl_i64_16, shr_i64_24, shl_i64_24, shr_i64_40, shl_i64_40]; omega)
    | ((with_reducible refine Arith.u32 ?_ ?_); simp (discharger := omega) only [Int.tdiv_eq_ediv_of_nonneg, shr_u8_4, shl_u8_4, shr_u16_4, shl_u16_4, shr_u16_8, shl_u16_8, shr_u32_4, shl_u32_4, shr_u32_8, shl_u32_8, shr_u32_16, shl_u32_16, shr_u32_24, shl_u32_24, shr_u64_4, shl_u64_4, shr_u64_8, shl_u64_8, shr_u64_16, shl_u64_16, shr_u64_24, shl_u64_24, shr_u64_40, shl_u64_40, shr_i64_4, shl_i64_4, shr_i64_8, shl_i64_8, shr_i64_16, shl_i64_16, shr_i64_24, shl_i64_24, shr_i64_40, shl_i64_40]; omega)
    | ((with_reducible refine Arith.u16 ?_ ?_); simp (discharger := omega) only [Int.tdiv_eq_ediv_of_nonneg, shr_u8_4, shl_u8_4, shr_u16_4, shl_u16_4, shr_u16_8, shl_u16_8, shr_u32_4, shl_u32_4, shr_u32_8, shl_u32_8, shr_u32_16, shl_u32_16, shr_u32_24, shl_u32_24, shr_u64_4, shl_u64_4, shr_u64_8, shl_u64_8, shr_u64_16, shl_u64_16, shr_u64_24, shl_u64_24, shr_u64_40, shl_u64_40, shr_i64_4, shl_i64_4, shr_i64_8, shl_i64_8, shr_i64_16, shl_i64_16, shr_i64_24, shl_i64_24, shr_i64_40, shl_i64_40]; omega)
    | ((with_reducible refine Arith.u8 ?_ ?_); simp (discharger := omega) only [Int.tdiv_eq_ediv_of_nonneg, shr_u8_4, shl_u8_4, shr_u16_4, shl_u16_4, shr_u16_8, shl_u16_8, shr_u32_4, shl_u32_4, shr_u32_8, shl_u32_8, shr_u32_16, shl_u32_16, shr_u32_24, shl_u32_24, shr_u64_4, shl_u64_4, shr_u64_8, shl_u64_8, shr_u64_16, shl_u64_16, shr_u64_24, shl_u64_24, shr_u64_40, shl_u64_40, shr_i64_4, shl_i64_4, shr_i64_8, shl_i64_8, shr_i64_16, shl_i64_16, shr_i64_24, shl_i64_24, shr_i64_40, shl_i64_40]; omega)
    | (with_reducible refine Arith.mk ?_)
    | (with_reducible refine Ends.mk ?_))
    all_goals first
      | (refine ⟨pA_yes ?_, rfl⟩; first | assumption | exact beq_bytes (by assumption))
      | (refine ⟨pA_no ?_, rfl⟩; first | assumption | exact bne_bytes (by assumption))
     

end G4
end Go.Proofs.YtnikpanebkknfaaDoor.VM
