/- law 18 by the evaluator: new locks. -/
import Derived.Test.YtmdfkggflainbaaV18c
import Derived.Test.YtmdfkggflainbaaSh18
namespace Go.Proofs.Ytmdfkggflainbaa.VM
namespace G5
open Go.RowKit
set_option linter.unusedVariables false
set_option linter.unusedSimpArgs false
set_option maxRecDepth 100000
variable {G : Ground}
def vf_slices_Repeat___int_int_ : VFn := ⟨(.seq (.reg [
    ⟨(some 4), .mv (.c (.p (.o (.nils)))), none, 0⟩] 0 none) (.seq (.seq (.reg [
    ⟨(some 9), .mv (.t 1), none, 0⟩,
    ⟨(some 10), .bin .lss (.t 9) (.c (.p (.o (.int .i64 0)))), none, 0⟩] 0 none) (.cond (.t 10) (.reg [
    ⟨(some 11), .bad, none, 0⟩,
    ⟨none, .bad, none, 0⟩] 0 none) .skip)) (.seq (.reg [
    ⟨(some 13), .mv (.t 0), none, 0⟩,
    ⟨(some 14), .len true (.t 13), none, 0⟩,
    ⟨(some 15), .cvi .u64 (.t 14), none, 0⟩,
    ⟨(some 16), .mv (.t 1), none, 0⟩,
    ⟨(some 17), .cvi .u64 (.t 16), none, 0⟩,
    ⟨(some 18), .call 73 [(.t 15), (.t 17)] 0, none, 0⟩,
    ⟨(some 12), .mv (.t 18), none, 0⟩,
    ⟨(some 19), .ext 0 (.t 12), none, 0⟩,
    ⟨(some 20), .ext 1 (.t 12), none, 0⟩,
    ⟨(some 5), .mv (.t 19), none, 0⟩,
    ⟨(some 6), .mv (.t 20), none, 0⟩] 0 none) (.seq (.seq (.reg [
    ⟨(some 21), .mv (.t 5), none, 0⟩,
    ⟨(some 22), .bin .gtr (.t 21) (.c (.p (.o (.int .u64 0)))), none, 0⟩,
    ⟨(some 23), .mv (.t 22), none, 0⟩,
    ⟨(some 24), .mv (.t 6), (some (23, false)), 0⟩,
    ⟨(some 25), .bin .gtr (.t 24) (.c (.p (.o (.int .u64 9223372036854775807)))), (some (23, false)), 0⟩,
    ⟨(some 26), .pick (.t 23) (.c (.p (.o (.bool true)))) (.t 25), none, 0⟩] 0 none) (.cond (.t 26) (.reg [
    ⟨(some 27), .bad, none, 0⟩,
    ⟨none, .bad, none, 0⟩] 0 none) .skip)) (.seq (.reg [
    ⟨(some 28), .mv (.t 6), none, 0⟩,
    ⟨(some 29), .cvi .i64 (.t 28), none, 0⟩,
    ⟨(some 30), .mks 1 8 [.int .i64 0] (.t 29) (.t 29), none, 0⟩,
    ⟨(some 7), .mv (.t 30), none, 1⟩] 1 none) (.seq (.reg [
    ⟨(some 31), .mv (.t 7), none, 0⟩,
    ⟨(some 32), .mv (.t 0), none, 0⟩,
    ⟨(some 33), .cpy 1 (.t 31) (.t 32), none, 0⟩,
    ⟨(some 8), .mv (.t 33), none, 0⟩] 0 none) (.seq (.block 0 (.loop (.seq (.seq (.reg [
    ⟨(some 34), .mv (.t 8), none, 0⟩,
    ⟨(some 35), .mv (.t 7), none, 0⟩,
    ⟨(some 36), .len true (.t 35), none, 0⟩,
    ⟨(some 37), .bin .lss (.t 34) (.t 36), none, 0⟩] 0 none) (.cond (.t 37) .skip (.exit 0))) (.block 1 (.reg [
    ⟨(some 38), .mv (.t 8), none, 0⟩,
    ⟨(some 39), .mv (.t 7), none, 0⟩,
    ⟨(some 40), .mv (.t 8), none, 0⟩,
    ⟨(some 41), .sll 1 (.t 39) (some (.t 40)) none, none, 0⟩,
    ⟨(some 42), .mv (.t 7), none, 0⟩,
    ⟨(some 43), .mv (.t 8), none, 0⟩,
    ⟨(some 44), .sll 1 (.t 42) none (some (.t 43)), none, 0⟩,
    ⟨(some 45), .cpy 1 (.t 41) (.t 44), none, 0⟩,
    ⟨(some 46), .bin .add (.t 38) (.t 45), none, 0⟩,
    ⟨(some 8), .mv (.t 46), none, 0⟩] 0 (some [(0, 1), (0, 2), (1, 2), (0, 3), (0, 4), (1, 4), (2, 4), (3, 4), (0, 5), (1, 5), (2, 5), (3, 5), (4, 5), (0, 6), (1, 6), (2, 6), (3, 6), (0, 7)])))))) (.seq (.reg [
    ⟨(some 47), .mv (.t 7), none, 0⟩,
    ⟨(some 4), .mv (.t 47), none, 0⟩] 0 none) .ret)))))))),
  [.tmp 4], 48, [0, 1, 4, 5, 6, 7, 8]⟩
theorem ok_slices_Repeat___int_int_ : cFn Try.prog eqsT newsT vf_slices_Repeat___int_int_.keep Try.f54 = some vf_slices_Repeat___int_int_ := by kernel_rfl
def vf_lock_New : VFn := ⟨(.seq (.reg [
    ⟨(some 2), .mv (.c (.p (.o (.nilp)))), none, 0⟩,
    ⟨(some 3), .mv (.c (.p (.o (.int .i64 0)))), none, 0⟩] 0 none) (.seq (.seq (.reg [
    ⟨(some 6), .mv (.t 0), none, 0⟩,
    ⟨(some 7), .bin .lss (.t 6) (.c (.p (.o (.int .i64 1)))), none, 0⟩,
    ⟨(some 8), .mv (.t 7), none, 0⟩,
    ⟨(some 9), .mv (.t 0), (some (8, false)), 0⟩,
    ⟨(some 10), .bin .gtr (.t 9) (.c (.p (.o (.int .i64 1024)))), (some (8, false)), 0⟩,
    ⟨(some 11), .pick (.t 8) (.c (.p (.o (.bool true)))) (.t 10), none, 0⟩] 0 none) (.cond (.t 11) (.seq (.reg [
    ⟨(some 2), .mv (.c (.p (.o (.nilp)))), none, 0⟩,
    ⟨(some 3), .mv (.c (.p (.o (.int .i64 2)))), none, 0⟩] 0 none) .ret) .skip)) (.seq (.reg [
    ⟨(some 12), .bsl 1 [.int .i64 0] [(0, 1, (.c (.p (.o (.int .i64 (-1))))))], none, 0⟩,
    ⟨(some 13), .mv (.t 0), none, 1⟩,
    ⟨(some 14), .call 54 [(.t 12), (.t 13)] 1, none, 1⟩,
    ⟨(some 15), .bld [.nils, .int .i64 0, .int .i64 0, .int .i64 0, .int .i64 0, .int .i64 0, .int .i64 0, .int .i64 0, .int .i64 0, .int .u64 0, .int .u64 0, .int .u64 0, .int .u64 0, .int .u64 0, .int .u64 0, .int .u64 0, .int .u64 0] [(0, 1, (.t 14))], none, 2⟩,
    ⟨(some 16), .box (.t 15), none, 2⟩,
    ⟨(some 4), .mv (.t 16), none, 3⟩] 3 none) (.seq (.seq (.reg [
    ⟨(some 17), .mv (.c (.p (.o (.int .i64 0)))), none, 0⟩] 0 none) (.block 0 (.loop (.seq (.reg [
    ⟨(some 18), .bin .lss (.t 17) (.c (.p (.o (.int .i64 8)))), none, 0⟩] 0 none) (.seq (.cond (.t 18) .skip (.exit 0)) (.seq (.block 1 (.seq (.reg [
    ⟨(some 19), .mv (.t 17), none, 0⟩,
    ⟨(some 5), .mv (.t 19), none, 0⟩] 0 none) (.reg [
    ⟨(some 20), .mv (.t 4), none, 0⟩,
    ⟨(some 21), .mv (.t 5), none, 0⟩,
    ⟨(some 22), .nilc (.t 20), none, 0⟩,
    ⟨(some 23), .fad 1 (.t 22), none, 0⟩,
    ⟨(some 24), .iaa 8 1 (.t 23) (.t 21), none, 0⟩,
    ⟨none, .st 1 (.t 24) (.c (.p (.o (.int .i64 (-1))))), none, 0⟩] 0 none))) (.reg [
    ⟨(some 25), .bin .add (.t 17) (.c (.p (.o (.int .i64 1)))), none, 0⟩,
    ⟨(some 17), .mv (.t 25), none, 0⟩] 0 none))))))) (.seq (.reg [
    ⟨(some 26), .mv (.t 4), none, 0⟩,
    ⟨(some 2), .mv (.t 26), none, 0⟩,
    ⟨(some 3), .mv (.c (.p (.o (.int .i64 0)))), none, 0⟩] 0 none) .ret))))),
  [.tmp 2, .tmp 3], 27, [0, 2, 3, 4, 5, 17]⟩
theorem ok_lock_New : cFn Try.prog eqsT newsT vf_lock_New.keep Try.f14 = some vf_lock_New := by kernel_rfl
def rp (k n : Nat) : List Int := List.replicate k (-1) ++ List.replicate (n - k) 0
theorem rp_len {k n : Nat} (h : k ≤ n) : (rp k n).length = n := by unfold rp; simp; omega
theorem rp_first (n : Nat) (h : 1 ≤ n) : setN (repeatL [.int .i64 0] n) 0 [.int .i64 (-1)] = i64SV (rp 1 n) := by
  rw [repeatL_i64, setN_i64]
  obtain ⟨m, rfl⟩ : ∃ m, n = m + 1 := ⟨n - 1, by omega⟩
  unfold rp; simp [List.replicate_succ]
theorem rp_step {k m n : Nat} (h1 : m ≤ k) (h2 : k + m ≤ n) : setN (i64SV (rp k n)) (0 + k * 1) (i64SV (((rp k n).drop 0).take (m * 1))) = i64SV (rp (k + m) n) := by
  have hl := rp_len (k := k) (n := n) (by omega)
  have e1 : ((rp k n).drop 0).take (m * 1) = List.replicate m (-1) := by
    rw [List.drop_zero, Nat.mul_one]; unfold rp
    rw [List.take_append_of_le_length (by simpa using h1), List.take_replicate, Nat.min_eq_left h1]
  have e2 : (rp k n).take k = List.replicate k (-1) := by
    unfold rp; rw [List.take_append_of_le_length (by simp), List.take_replicate, Nat.min_self]
  have e3 : (rp k n).drop (k + m) = List.replicate (n - (k + m)) 0 := by
    unfold rp; rw [List.drop_append, List.drop_replicate, List.drop_replicate, List.length_replicate]
    rw [show k - (k + m) = 0 by omega, show n - k - (k + m - k) = n - (k + m) by omega]; rfl
  rw [e1, Nat.zero_add, Nat.mul_one, setN_i64s _ _ _ (by rw [List.length_replicate, hl]; exact h2), e2, List.length_replicate, e3]
  unfold rp; rw [List.replicate_append_replicate]
theorem rp_full (n : Nat) : rp n n = List.replicate n (-1) := by unfold rp; simp
set_option maxHeartbeats 4000000 in
theorem rep_det (n : Nat) (h : 1 ≤ n ∧ n ≤ 1024) : Det G Try.prog 54 [.o (.slc 0 0 1 (.is 1)), .o (.int .i64 n)] [.row true false [.int .i64 (-1)]] (vO (.slc 1 0 n (.is n))) [.row true false [.int .i64 (-1)], .row true true (i64SV (List.replicate n (-1)))] := by
  refine can_of_W known mix Try.func54 (by kernel_rfl) ok_slices_Repeat___int_int_ (Nat.le_of_ble_eq_true rfl) ?_
  repeat' ((conv => whnf); first
    | ((with_reducible refine Look.mk ?_); refine ⟨_, rfl, ?_⟩)
    | ((with_reducible refine LookN.zeros ?_))
    | ((with_reducible refine LookN.bytes ?_ ?_); (simp; done))
    | ((with_reducible refine BytesW.bytes ?_))
    | ((with_reducible refine Look.byte ?_ ?_); omega)
    | ((with_reducible refine Look.setb ?_ ?_ ?_); exact bv8_bd _; omega)
    | ((with_reducible refine LookN.setb ?_ ?_ ?_); exact bv8_bd _; omega)
    | ((with_reducible refine LookN.mk ?_); refine ⟨_, rfl, ?_⟩)
    | ((with_reducible refine Need.mk ?_ ?_); first | ((with_reducible refine needB ?_); kernel_rfl) | with_reducible rfl | omega | (with_reducible refine ⟨rfl, ?_⟩; focus omega) | (simp only [ByteArray.size_append, size_lit, List.size_toArray, List.length_cons, List.length_nil]; omega) | exact rfl | trivial | exact Nat.le_of_ble_eq_true rfl | (exact ⟨rfl, by omega⟩) | (intro h; first | rfl | cases h) | (simp only [lenS_text, lenS_setN, lenS_zeros]; omega))
    | ((with_reducible refine BytesW.mk ?_); refine ⟨_, rfl, ?_⟩)
    | (with_reducible refine CallW.det (mul_det _ (by omega)) ?_)
    | ((with_reducible refine WrT.same ?_ ?_); focus ((repeat ((conv => whnf); first | exact trivial | (apply And.intro; focus rfl))); done))
    | (with_reducible refine WrT.all ?_)
    | (with_reducible refine DropW.to [0, 4, 5, 6] ?_)
    | (with_reducible refine Need.mk ⟨(by first | (simp only [repeatL_i64, lenS_i64, List.length_replicate]; omega) | (rw [lenS_i64, rp_len (by omega)]; omega)), fun _ => allFlat_i64 _⟩ ?_)
    | (with_reducible refine Need.mk ⟨(by first | (simp only [repeatL_i64, lenS_i64, List.length_replicate]; omega) | (rw [lenS_i64, rp_len (by omega)]; omega)), fun _ => rfl⟩ ?_)
    | ((with_reducible refine LookN.i64 ?_ ?_); (rw [rp_len (by omega)]; omega))
    | ((with_reducible refine Test.tmodEqT ?_ ?_ ?_); omega; focus first | omega | assumption)
    | ((with_reducible refine Test.tmodEqF ?_ ?_ ?_); omega; focus first | omega | assumption)
    | ((with_reducible refine Test.tmodNeT ?_ ?_ ?_); omega; focus first | omega | assumption)
    | ((with_reducible refine Test.tmodNeF ?_ ?_ ?_); omega; focus first | omega | assumption)
    | ((with_reducible refine Test.tmodEq ?_ (fun h => ?_) (fun h => ?_)); omega)
    | ((with_reducible refine Test.tmodNe ?_ (fun h => ?_) (fun h => ?_)); omega)
    | ((with_reducible refine Test.notT ?_ ?_); focus assumption)
    | ((with_reducible refine Test.notF ?_ ?_); focus assumption)
    | (with_reducible refine Test.notIe (fun h => ?_) (fun h => ?_))
    | (with_reducible refine Test.notD (fun h => ?_) (fun h => ?_))
    | ((with_reducible refine Test.empty (fun h => ?_) (fun h => ?_)))
    | (with_reducible refine Test.tt ?_)
    | (with_reducible refine Test.ff ?_)
    | ((with_reducible refine Test.dt ?_ ?_); omega)
    | ((with_reducible refine Test.df ?_ ?_); omega)
    | (with_reducible refine Test.d (fun h => ?_) (fun h => ?_))
    | ((with_reducible refine Test.ieT ?_ ?_); omega)
    | ((with_reducible refine Test.ieF ?_ ?_); omega)
    | ((with_reducible refine Test.neT ?_ ?_); omega)
    | ((with_reducible refine Test.neF ?_ ?_); omega)
    | (with_reducible refine Test.ie (fun h => ?_) (fun h => ?_))
    | (with_reducible refine Test.ne (fun h => ?_) (fun h => ?_))
    | ((with_reducible refine Test.b ?_ ?_); (focus first | assumption | (simp [negB]; done) | exact rfl))
    | ((with_reducible refine Test.nb ?_ ?_); (focus first | assumption | (simp [negB]; done) | exact rfl))
    | (with_reducible refine Test.notS (fun h => ?_) (fun h => ?_))
    | (with_reducible refine Test.mk (fun h => ?_) (fun h => ?_))
    | ((with_reducible refine Arith.tdiv ?_ ?_); omega)
    | (with_reducible refine Arith.bv8 ?_)
    | (with_reducible refine Arith.bv16 ?_)
    | (with_reducible refine Arith.bv32 ?_)
    | (with_reducible refine Arith.bv64 ?_)
    | ((with_reducible refine Arith.i64 ?_ ?_); omega)
    | ((with_reducible refine Arith.u64 ?_ ?_); omega)
    | ((with_reducible refine Arith.u32 ?_ ?_); omega)
    | ((with_reducible refine Arith.u16 ?_ ?_); omega)
    | ((with_reducible refine Arith.u8 ?_ ?_); omega)
    | ((with_reducible refine Arith.i32 ?_ ?_); omega)
    | (with_reducible refine Arith.mk ?_)
    | (with_reducible refine Ends.mk ?_))
  refine LoopW.rule (fun f sl M => ∃ k : Nat, sl = [(1, vI .i64 n), (7, vO (.slc 1 0 (n : Int).toNat (.is (n : Int).toNat))), (8, vI .i64 (k : Nat))] ∧ M = [.row true false [.int .i64 (-1)], .row true true (i64SV (rp k n))] ∧ 1 ≤ k ∧ k ≤ n ∧ n - k < f) ?_ n ⟨1, rfl, by rw [← rp_first n h.1]; rfl, by omega, by omega, by omega⟩
  rintro f sl M ⟨k, rfl, rfl, h1, h2, h3⟩ X hX
  cases f with
  | zero => omega
  | succ f =>
    repeat' ((conv => whnf); first
    | ((with_reducible refine Look.mk ?_); refine ⟨_, rfl, ?_⟩)
    | ((with_reducible refine LookN.zeros ?_))
    | ((with_reducible refine LookN.bytes ?_ ?_); (simp; done))
    | ((with_reducible refine BytesW.bytes ?_))
    | ((with_reducible refine Look.byte ?_ ?_); omega)
    | ((with_reducible refine Look.setb ?_ ?_ ?_); exact bv8_bd _; omega)
    | ((with_reducible refine LookN.setb ?_ ?_ ?_); exact bv8_bd _; omega)
    | ((with_reducible refine LookN.mk ?_); refine ⟨_, rfl, ?_⟩)
    | ((with_reducible refine Need.mk ?_ ?_); first | ((with_reducible refine needB ?_); kernel_rfl) | with_reducible rfl | omega | (with_reducible refine ⟨rfl, ?_⟩; focus omega) | (simp only [ByteArray.size_append, size_lit, List.size_toArray, List.length_cons, List.length_nil]; omega) | exact rfl | trivial | exact Nat.le_of_ble_eq_true rfl | (exact ⟨rfl, by omega⟩) | (intro h; first | rfl | cases h) | (simp only [lenS_text, lenS_setN, lenS_zeros]; omega))
    | ((with_reducible refine BytesW.mk ?_); refine ⟨_, rfl, ?_⟩)
    | (with_reducible refine CallW.det (mul_det _ (by omega)) ?_)
    | ((with_reducible refine WrT.same ?_ ?_); focus ((repeat ((conv => whnf); first | exact trivial | (apply And.intro; focus rfl))); done))
    | (with_reducible refine WrT.all ?_)
    | (with_reducible refine DropW.to [0, 4, 5, 6] ?_)
    | (with_reducible refine Need.mk ⟨(by first | (simp only [repeatL_i64, lenS_i64, List.length_replicate]; omega) | (rw [lenS_i64, rp_len (by omega)]; omega)), fun _ => allFlat_i64 _⟩ ?_)
    | (with_reducible refine Need.mk ⟨(by first | (simp only [repeatL_i64, lenS_i64, List.length_replicate]; omega) | (rw [lenS_i64, rp_len (by omega)]; omega)), fun _ => rfl⟩ ?_)
    | ((with_reducible refine LookN.i64 ?_ ?_); (rw [rp_len (by omega)]; omega))
    | ((with_reducible refine Test.tmodEqT ?_ ?_ ?_); omega; focus first | omega | assumption)
    | ((with_reducible refine Test.tmodEqF ?_ ?_ ?_); omega; focus first | omega | assumption)
    | ((with_reducible refine Test.tmodNeT ?_ ?_ ?_); omega; focus first | omega | assumption)
    | ((with_reducible refine Test.tmodNeF ?_ ?_ ?_); omega; focus first | omega | assumption)
    | ((with_reducible refine Test.tmodEq ?_ (fun h => ?_) (fun h => ?_)); omega)
    | ((with_reducible refine Test.tmodNe ?_ (fun h => ?_) (fun h => ?_)); omega)
    | ((with_reducible refine Test.notT ?_ ?_); focus assumption)
    | ((with_reducible refine Test.notF ?_ ?_); focus assumption)
    | (with_reducible refine Test.notIe (fun h => ?_) (fun h => ?_))
    | (with_reducible refine Test.notD (fun h => ?_) (fun h => ?_))
    | ((with_reducible refine Test.empty (fun h => ?_) (fun h => ?_)))
    | (with_reducible refine Test.tt ?_)
    | (with_reducible refine Test.ff ?_)
    | ((with_reducible refine Test.dt ?_ ?_); omega)
    | ((with_reducible refine Test.df ?_ ?_); omega)
    | (with_reducible refine Test.d (fun h => ?_) (fun h => ?_))
    | ((with_reducible refine Test.ieT ?_ ?_); omega)
    | ((with_reducible refine Test.ieF ?_ ?_); omega)
    | ((with_reducible refine Test.neT ?_ ?_); omega)
    | ((with_reducible refine Test.neF ?_ ?_); omega)
    | (with_reducible refine Test.ie (fun h => ?_) (fun h => ?_))
    | (with_reducible refine Test.ne (fun h => ?_) (fun h => ?_))
    | ((with_reducible refine Test.b ?_ ?_); (focus first | assumption | (simp [negB]; done) | exact rfl))
    | ((with_reducible refine Test.nb ?_ ?_); (focus first | assumption | (simp [negB]; done) | exact rfl))
    | (with_reducible refine Test.notS (fun h => ?_) (fun h => ?_))
    | (with_reducible refine Test.mk (fun h => ?_) (fun h => ?_))
    | ((with_reducible refine Arith.tdiv ?_ ?_); omega)
    | (with_reducible refine Arith.bv8 ?_)
    | (with_reducible refine Arith.bv16 ?_)
    | (with_reducible refine Arith.bv32 ?_)
    | (with_reducible refine Arith.bv64 ?_)
    | ((with_reducible refine Arith.i64 ?_ ?_); omega)
    | ((with_reducible refine Arith.u64 ?_ ?_); omega)
    | ((with_reducible refine Arith.u32 ?_ ?_); omega)
    | ((with_reducible refine Arith.u16 ?_ ?_); omega)
    | ((with_reducible refine Arith.u8 ?_ ?_); omega)
    | ((with_reducible refine Arith.i32 ?_ ?_); omega)
    | (with_reducible refine Arith.mk ?_)
    | (with_reducible refine Ends.mk ?_))
    all_goals first
      | (refine ⟨rfl, ?_⟩; have hk : k = n := by omega
         subst hk; rw [rp_full]; done)
      | (refine hX f (Nat.lt_succ_self f) _ _ ⟨k + k, ?_, ?_, by omega, by omega, by omega⟩; rfl; exact congrArg (fun l => [Row.row true false [.int .i64 (-1)], Row.row true true l]) (rp_step (Nat.le_refl k) (by omega)))
      | (refine hX f (Nat.lt_succ_self f) _ _ ⟨k + (n - k), ?_, ?_, by omega, by omega, by omega⟩; rfl; exact congrArg (fun l => [Row.row true false [.int .i64 (-1)], Row.row true true l]) (rp_step (m := n - k) (by omega) (by omega)))
     
end G5
end Go.Proofs.Ytmdfkggflainbaa.VM
