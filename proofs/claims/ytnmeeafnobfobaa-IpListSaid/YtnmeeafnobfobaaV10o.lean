/- law 10 by the evaluator: options are read. -/
import Derived.Test.YtnmeeafnobfobaaVBo
import Derived.Test.YtnmeeafnobfobaaVG2n
namespace Go.Proofs.Ytnmeeafnobfobaa.VM
namespace G2
open Go.RowKit
set_option linter.unusedVariables false
set_option linter.unusedSimpArgs false
set_option maxRecDepth 100000
def vf_ip4_Options : VFn := ⟨(.seq (.reg [
    ⟨(some 2), .mv (.c (.p (.o (.nils)))), none, 0⟩,
    ⟨(some 3), .mv (.c (.p (.o (.int .i64 0)))), none, 0⟩] 0 none) (.scope 0 (.seq (.seq (.reg [
    ⟨(some 5), .mv (.t 0), none, 0⟩,
    ⟨(some 6), .len false (.t 5), none, 0⟩,
    ⟨(some 7), .bin .gtr (.t 6) (.c (.p (.o (.int .i64 40)))), none, 0⟩] 0 none) (.cond (.t 7) (.seq (.reg [
    ⟨(some 2), .mv (.c (.p (.o (.nils)))), none, 0⟩,
    ⟨(some 3), .mv (.c (.p (.o (.int .i64 4)))), none, 0⟩] 0 none) .ret) .skip)) (.seq (.reg [
    ⟨(some 8), .mv (.t 0), none, 0⟩,
    ⟨(some 4), .mv (.t 8), none, 0⟩] 0 none) (.seq (.label 0) (.seq (.block 0 (.seq (.reg [
    ⟨(some 10), .mv (.t 4), none, 0⟩,
    ⟨(some 11), .bin .eql (.t 10) (.c (.p (.o (.str ⟨#[]⟩)))), none, 0⟩,
    ⟨(some 12), .mv (.t 11), none, 0⟩,
    ⟨(some 13), .mv (.t 4), (some (12, false)), 0⟩,
    ⟨(some 14), .ixs (.t 13) (.c (.p (.o (.int .i64 0)))), (some (12, false)), 0⟩,
    ⟨(some 15), .bin .eql (.t 14) (.c (.p (.o (.int .u8 0)))), (some (12, false)), 0⟩,
    ⟨(some 16), .pick (.t 12) (.c (.p (.o (.bool true)))) (.t 15), none, 0⟩,
    ⟨(some 9), .mv (.t 16), none, 0⟩] 0 none) (.cond (.t 9) (.seq (.reg [
    ⟨(some 17), .mv (.t 2), none, 0⟩,
    ⟨(some 2), .mv (.t 17), none, 0⟩,
    ⟨(some 3), .mv (.c (.p (.o (.int .i64 0)))), none, 0⟩] 0 none) .ret) (.seq (.reg [
    ⟨(some 19), .mv (.t 4), none, 0⟩,
    ⟨(some 20), .ixs (.t 19) (.c (.p (.o (.int .i64 0)))), none, 0⟩,
    ⟨(some 21), .bin .eql (.t 20) (.c (.p (.o (.int .u8 1)))), none, 0⟩,
    ⟨(some 18), .mv (.t 21), none, 0⟩] 0 none) (.cond (.t 18) (.seq (.reg [
    ⟨(some 22), .mv (.t 2), none, 0⟩,
    ⟨(some 23), .bld [.int .u8 0, .str ⟨#[]⟩] [(0, 1, (.c (.p (.o (.int .u8 1)))))], none, 0⟩,
    ⟨(some 24), .bsl 1 [.int .u8 0, .str ⟨#[]⟩] [(0, 2, (.t 23))], none, 0⟩,
    ⟨(some 25), .app 2 24 (.t 22) (.t 24), none, 1⟩,
    ⟨(some 26), .mv (.t 4), none, 2⟩,
    ⟨(some 27), .sls (.t 26) (some (.c (.p (.o (.int .i64 1))))) none, none, 2⟩,
    ⟨(some 2), .mv (.t 25), none, 2⟩,
    ⟨(some 4), .mv (.t 27), none, 2⟩] 2 (some [(0, 1), (0, 2), (0, 4), (1, 4), (2, 4), (3, 4), (0, 5), (1, 5), (2, 5), (3, 5), (4, 6), (5, 6)])) (.goto 0)) (.seq (.reg [
    ⟨(some 29), .mv (.t 4), none, 0⟩,
    ⟨(some 30), .len false (.t 29), none, 0⟩,
    ⟨(some 31), .bin .lss (.t 30) (.c (.p (.o (.int .i64 2)))), none, 0⟩,
    ⟨(some 32), .mv (.t 31), none, 0⟩,
    ⟨(some 33), .mv (.t 4), (some (32, false)), 0⟩,
    ⟨(some 34), .ixs (.t 33) (.c (.p (.o (.int .i64 1)))), (some (32, false)), 0⟩,
    ⟨(some 35), .bin .lss (.t 34) (.c (.p (.o (.int .u8 2)))), (some (32, false)), 0⟩,
    ⟨(some 36), .pick (.t 32) (.c (.p (.o (.bool true)))) (.t 35), none, 0⟩,
    ⟨(some 37), .mv (.t 36), none, 0⟩,
    ⟨(some 38), .mv (.t 4), (some (37, false)), 0⟩,
    ⟨(some 39), .ixs (.t 38) (.c (.p (.o (.int .i64 1)))), (some (37, false)), 0⟩,
    ⟨(some 40), .cvi .i64 (.t 39), (some (37, false)), 0⟩,
    ⟨(some 41), .mv (.t 4), (some (37, false)), 0⟩,
    ⟨(some 42), .len false (.t 41), (some (37, false)), 0⟩,
    ⟨(some 43), .bin .gtr (.t 40) (.t 42), (some (37, false)), 0⟩,
    ⟨(some 44), .pick (.t 37) (.c (.p (.o (.bool true)))) (.t 43), none, 0⟩,
    ⟨(some 28), .mv (.t 44), none, 0⟩] 0 none) (.cond (.t 28) (.seq (.reg [
    ⟨(some 2), .mv (.c (.p (.o (.nils)))), none, 0⟩,
    ⟨(some 3), .mv (.c (.p (.o (.int .i64 102)))), none, 0⟩] 0 none) .ret) .skip))))))) (.seq (.reg [
    ⟨(some 45), .mv (.t 2), none, 0⟩,
    ⟨(some 46), .mv (.t 4), none, 0⟩,
    ⟨(some 47), .ixs (.t 46) (.c (.p (.o (.int .i64 0)))), none, 0⟩,
    ⟨(some 48), .mv (.t 4), none, 0⟩,
    ⟨(some 49), .mv (.t 4), none, 0⟩,
    ⟨(some 50), .ixs (.t 49) (.c (.p (.o (.int .i64 1)))), none, 0⟩,
    ⟨(some 51), .sls (.t 48) (some (.c (.p (.o (.int .i64 2))))) (some (.t 50)), none, 0⟩,
    ⟨(some 52), .bld [.int .u8 0, .str ⟨#[]⟩] [(0, 1, (.t 47)), (1, 1, (.t 51))], none, 0⟩,
    ⟨(some 53), .bsl 1 [.int .u8 0, .str ⟨#[]⟩] [(0, 2, (.t 52))], none, 0⟩,
    ⟨(some 54), .app 2 24 (.t 45) (.t 53), none, 1⟩,
    ⟨(some 55), .mv (.t 4), none, 2⟩,
    ⟨(some 56), .mv (.t 4), none, 2⟩,
    ⟨(some 57), .ixs (.t 56) (.c (.p (.o (.int .i64 1)))), none, 2⟩,
    ⟨(some 58), .sls (.t 55) (some (.t 57)) none, none, 2⟩,
    ⟨(some 2), .mv (.t 54), none, 2⟩,
    ⟨(some 4), .mv (.t 58), none, 2⟩] 2 (some [(0, 1), (0, 2), (0, 3), (1, 3), (2, 3), (0, 4), (1, 4), (2, 4), (3, 4), (0, 5), (1, 5), (2, 5), (3, 5), (0, 6), (1, 6), (2, 6), (0, 7), (0, 8), (0, 10), (1, 10), (2, 10), (3, 10), (4, 10), (5, 10), (6, 10), (7, 10), (8, 10), (9, 10), (0, 11), (1, 11), (2, 11), (3, 11), (4, 11), (5, 11), (6, 11), (7, 11), (8, 11), (9, 11), (10, 11), (0, 12), (1, 12), (2, 12), (3, 12), (4, 12), (5, 12), (6, 12), (7, 12), (8, 12), (9, 12), (10, 12), (0, 13), (1, 13), (2, 13), (3, 13), (4, 13), (5, 13), (6, 13), (7, 13), (8, 13), (9, 13), (10, 14), (11, 14), (12, 14), (13, 14)])) (.goto 0)))))) (.seq .skip (.seq (.block 0 (.seq (.reg [
    ⟨(some 10), .mv (.t 4), none, 0⟩,
    ⟨(some 11), .bin .eql (.t 10) (.c (.p (.o (.str ⟨#[]⟩)))), none, 0⟩,
    ⟨(some 12), .mv (.t 11), none, 0⟩,
    ⟨(some 13), .mv (.t 4), (some (12, false)), 0⟩,
    ⟨(some 14), .ixs (.t 13) (.c (.p (.o (.int .i64 0)))), (some (12, false)), 0⟩,
    ⟨(some 15), .bin .eql (.t 14) (.c (.p (.o (.int .u8 0)))), (some (12, false)), 0⟩,
    ⟨(some 16), .pick (.t 12) (.c (.p (.o (.bool true)))) (.t 15), none, 0⟩,
    ⟨(some 9), .mv (.t 16), none, 0⟩] 0 none) (.cond (.t 9) (.seq (.reg [
    ⟨(some 17), .mv (.t 2), none, 0⟩,
    ⟨(some 2), .mv (.t 17), none, 0⟩,
    ⟨(some 3), .mv (.c (.p (.o (.int .i64 0)))), none, 0⟩] 0 none) .ret) (.seq (.reg [
    ⟨(some 19), .mv (.t 4), none, 0⟩,
    ⟨(some 20), .ixs (.t 19) (.c (.p (.o (.int .i64 0)))), none, 0⟩,
    ⟨(some 21), .bin .eql (.t 20) (.c (.p (.o (.int .u8 1)))), none, 0⟩,
    ⟨(some 18), .mv (.t 21), none, 0⟩] 0 none) (.cond (.t 18) (.seq (.reg [
    ⟨(some 22), .mv (.t 2), none, 0⟩,
    ⟨(some 23), .bld [.int .u8 0, .str ⟨#[]⟩] [(0, 1, (.c (.p (.o (.int .u8 1)))))], none, 0⟩,
    ⟨(some 24), .bsl 1 [.int .u8 0, .str ⟨#[]⟩] [(0, 2, (.t 23))], none, 0⟩,
    ⟨(some 25), .app 2 24 (.t 22) (.t 24), none, 1⟩,
    ⟨(some 26), .mv (.t 4), none, 2⟩,
    ⟨(some 27), .sls (.t 26) (some (.c (.p (.o (.int .i64 1))))) none, none, 2⟩,
    ⟨(some 2), .mv (.t 25), none, 2⟩,
    ⟨(some 4), .mv (.t 27), none, 2⟩] 2 (some [(0, 1), (0, 2), (0, 4), (1, 4), (2, 4), (3, 4), (0, 5), (1, 5), (2, 5), (3, 5), (4, 6), (5, 6)])) (.goto 0)) (.seq (.reg [
    ⟨(some 29), .mv (.t 4), none, 0⟩,
    ⟨(some 30), .len false (.t 29), none, 0⟩,
    ⟨(some 31), .bin .lss (.t 30) (.c (.p (.o (.int .i64 2)))), none, 0⟩,
    ⟨(some 32), .mv (.t 31), none, 0⟩,
    ⟨(some 33), .mv (.t 4), (some (32, false)), 0⟩,
    ⟨(some 34), .ixs (.t 33) (.c (.p (.o (.int .i64 1)))), (some (32, false)), 0⟩,
    ⟨(some 35), .bin .lss (.t 34) (.c (.p (.o (.int .u8 2)))), (some (32, false)), 0⟩,
    ⟨(some 36), .pick (.t 32) (.c (.p (.o (.bool true)))) (.t 35), none, 0⟩,
    ⟨(some 37), .mv (.t 36), none, 0⟩,
    ⟨(some 38), .mv (.t 4), (some (37, false)), 0⟩,
    ⟨(some 39), .ixs (.t 38) (.c (.p (.o (.int .i64 1)))), (some (37, false)), 0⟩,
    ⟨(some 40), .cvi .i64 (.t 39), (some (37, false)), 0⟩,
    ⟨(some 41), .mv (.t 4), (some (37, false)), 0⟩,
    ⟨(some 42), .len false (.t 41), (some (37, false)), 0⟩,
    ⟨(some 43), .bin .gtr (.t 40) (.t 42), (some (37, false)), 0⟩,
    ⟨(some 44), .pick (.t 37) (.c (.p (.o (.bool true)))) (.t 43), none, 0⟩,
    ⟨(some 28), .mv (.t 44), none, 0⟩] 0 none) (.cond (.t 28) (.seq (.reg [
    ⟨(some 2), .mv (.c (.p (.o (.nils)))), none, 0⟩,
    ⟨(some 3), .mv (.c (.p (.o (.int .i64 102)))), none, 0⟩] 0 none) .ret) .skip))))))) (.seq (.reg [
    ⟨(some 45), .mv (.t 2), none, 0⟩,
    ⟨(some 46), .mv (.t 4), none, 0⟩,
    ⟨(some 47), .ixs (.t 46) (.c (.p (.o (.int .i64 0)))), none, 0⟩,
    ⟨(some 48), .mv (.t 4), none, 0⟩,
    ⟨(some 49), .mv (.t 4), none, 0⟩,
    ⟨(some 50), .ixs (.t 49) (.c (.p (.o (.int .i64 1)))), none, 0⟩,
    ⟨(some 51), .sls (.t 48) (some (.c (.p (.o (.int .i64 2))))) (some (.t 50)), none, 0⟩,
    ⟨(some 52), .bld [.int .u8 0, .str ⟨#[]⟩] [(0, 1, (.t 47)), (1, 1, (.t 51))], none, 0⟩,
    ⟨(some 53), .bsl 1 [.int .u8 0, .str ⟨#[]⟩] [(0, 2, (.t 52))], none, 0⟩,
    ⟨(some 54), .app 2 24 (.t 45) (.t 53), none, 1⟩,
    ⟨(some 55), .mv (.t 4), none, 2⟩,
    ⟨(some 56), .mv (.t 4), none, 2⟩,
    ⟨(some 57), .ixs (.t 56) (.c (.p (.o (.int .i64 1)))), none, 2⟩,
    ⟨(some 58), .sls (.t 55) (some (.t 57)) none, none, 2⟩,
    ⟨(some 2), .mv (.t 54), none, 2⟩,
    ⟨(some 4), .mv (.t 58), none, 2⟩] 2 (some [(0, 1), (0, 2), (0, 3), (1, 3), (2, 3), (0, 4), (1, 4), (2, 4), (3, 4), (0, 5), (1, 5), (2, 5), (3, 5), (0, 6), (1, 6), (2, 6), (0, 7), (0, 8), (0, 10), (1, 10), (2, 10), (3, 10), (4, 10), (5, 10), (6, 10), (7, 10), (8, 10), (9, 10), (0, 11), (1, 11), (2, 11), (3, 11), (4, 11), (5, 11), (6, 11), (7, 11), (8, 11), (9, 11), (10, 11), (0, 12), (1, 12), (2, 12), (3, 12), (4, 12), (5, 12), (6, 12), (7, 12), (8, 12), (9, 12), (10, 12), (0, 13), (1, 13), (2, 13), (3, 13), (4, 13), (5, 13), (6, 13), (7, 13), (8, 13), (9, 13), (10, 14), (11, 14), (12, 14), (13, 14)])) (.goto 0)))))),
  [.tmp 2, .tmp 3], 59, [0, 2, 3, 4]⟩
theorem ok_ip4_Options : cFn Try.prog eqsT newsT vf_ip4_Options.keep Try.f39 = some vf_ip4_Options := by kernel_rfl
theorem optSV_snoc : ∀ (l : List (Int × ByteArray)) (k : Int) (d : ByteArray), dropN (optSV l) 0 ++ [.int .u8 k, .str d] = optSV (l ++ [(k, d)])
  | [], k, d => rfl
  | (a, b) :: l, k, d => by
    have := optSV_snoc l k d
    have e : ∀ m : List SV, dropN m 0 = m := fun m => by cases m <;> rfl
    rw [e] at this ⊢
    simp only [optSV, List.cons_append]; rw [this]
theorem lenS_optSV : ∀ l : List (Int × ByteArray), lenS (optSV l) = l.length * 2
  | [] => rfl
  | (a, b) :: l => by simp only [optSV, lenS, lenS_optSV l, List.length_cons]; omega
/-- What options' bytes say: none: they are none. -/
def optP : Nat → ByteArray → List (Int × ByteArray) → Option (List (Int × ByteArray))
  | 0, _, acc => some acc
  | f + 1, u, acc =>
    if u.size = 0 then some acc else if bAt u (Int.toNat 0) = 0 then some acc else if bAt u (Int.toNat 0) = 1 then optP f (u.extract 1 u.size) (acc ++ [(1, ⟨#[]⟩)])
    else if u.size < 2 then none else if bAt u (Int.toNat 1) < 2 then none else if bAt u (Int.toNat 1) > u.size then none
    else optP f (u.extract (bAt u (Int.toNat 1)).toNat u.size) (acc ++ [(bAt u (Int.toNat 0), u.extract (Int.toNat 2) (bAt u (Int.toNat 1)).toNat)])
/-- How a list of options lies in memory. -/
def optV : List (Int × ByteArray) → SV
  | [] => .nils
  | x :: l => .slc 0 0 (l.length + 1) (.upto 2)
def optM : List (Int × ByteArray) → List Row
  | [] => []
  | x :: l => [.row true true (optSV (x :: l))]
theorem optV_ne {l : List (Int × ByteArray)} (h : l ≠ []) : optV l = .slc 0 0 l.length (.upto 2) := by cases l with
  | nil => exact absurd rfl h
  | cons x l => rfl
theorem optM_ne {l : List (Int × ByteArray)} (h : l ≠ []) : optM l = [.row true true (optSV l)] := by cases l with
  | nil => exact absurd rfl h
  | cons x l => rfl
def optR (R : Option (List (Int × ByteArray))) (v : V) (M : List Row) : Prop := match R with
  | none => v = .t [.o .nils, .o (.int .i64 102)] ∧ M = []
  | some l => v = .t [.o (optV l), .o (.int .i64 0)] ∧ M = optM l
theorem need_app {a b c d : Prop} {A : Prop} (h1 : a) (h2 : b) (h3 : c) (h4 : d) (g : A) : Need (a ∧ b ∧ c ∧ d) A := ⟨⟨h1, h2, h3, h4⟩, g⟩
theorem LookN.optl {l : List (Int × ByteArray)} {n : Nat} {K : List SV → Prop} (h : n = l.length * 2) (g : K (optSV l)) : LookN (optSV l) 0 n K := ⟨_, getN_all (by rw [lenS_optSV, h]), g⟩
set_option maxHeartbeats 4000000 in
theorem options_can (s : ByteArray) (hs : s.size ≤ 40) (R : Option (List (Int × ByteArray))) (h1 : optP (s.size + 1) s [] = R) : Can Try.prog 39 [.o (.str s)] [] (optR R) := by
  have hb0 := bAt_bd s (Int.toNat 0)
  have hb1 := bAt_bd s (Int.toNat 1)
  rw [optP] at h1
  refine can_of_W known mix Try.func39 (by kernel_rfl) ok_ip4_Options (Nat.le_of_ble_eq_true rfl) ?_
  repeat' ((conv => whnf); first
    | ((with_reducible refine Look.mk ?_); refine ⟨_, rfl, ?_⟩)
    | ((with_reducible refine LookN.zeros ?_))
    | ((with_reducible refine LookN.bytes ?_ ?_); (simp; done))
    | ((with_reducible refine BytesW.bytes ?_))
    | ((with_reducible refine Look.byte ?_ ?_); omega)
    | ((with_reducible refine Look.setb ?_ ?_ ?_); exact bv8_bd _; omega)
    | ((with_reducible refine LookN.setb ?_ ?_ ?_); exact bv8_bd _; omega)
    | ((with_reducible refine LookN.mk ?_); refine ⟨_, rfl, ?_⟩)
    | ((with_reducible refine Need.mk ?_ ?_); first | ((with_reducible refine needB ?_); kernel_rfl) | with_reducible rfl | omega | (with_reducible refine ⟨rfl, ?_⟩; focus omega) | (simp only [ByteArray.size_append, size_lit, List.size_toArray, List.length_cons, List.length_nil, Sp.ofB_size, ByteArray.size_extract]; omega) | exact rfl | trivial | exact Nat.le_of_ble_eq_true rfl | (exact ⟨rfl, by omega⟩) | (intro h; first | rfl | cases h) | (simp only [lenS_text, lenS_setN, lenS_zeros]; omega))
    | ((with_reducible refine BytesW.mk ?_); refine ⟨_, rfl, ?_⟩)
    | (with_reducible refine need_app rfl rfl (by rw [lenS_optSV]; omega) (by omega) ?_)
    | ((with_reducible refine Test.tmodEqT ?_ ?_ ?_); omega; focus first | omega | assumption)
    | ((with_reducible refine Test.tmodEqF ?_ ?_ ?_); omega; focus first | omega | assumption)
    | ((with_reducible refine Test.tmodNeT ?_ ?_ ?_); omega; focus first | omega | assumption)
    | ((with_reducible refine Test.tmodNeF ?_ ?_ ?_); omega; focus first | omega | assumption)
    | ((with_reducible refine Test.tmodEq ?_ (fun h => ?_) (fun h => ?_)); omega)
    | ((with_reducible refine Test.tmodNe ?_ (fun h => ?_) (fun h => ?_)); omega)
    | ((with_reducible refine Test.notT ?_ ?_); focus assumption)
    | ((with_reducible refine Test.notF ?_ ?_); focus assumption)
    | (with_reducible refine Test.notIe (fun h => ?_) (fun h => ?_))
    | (with_reducible refine Test.notD (fun h => ?_) (fun h => ?_))
    | ((with_reducible refine Test.empty (fun h => ?_) (fun h => ?_)))
    | (with_reducible refine Test.tt ?_)
    | (with_reducible refine Test.ff ?_)
    | ((with_reducible refine Test.dt ?_ ?_); omega)
    | ((with_reducible refine Test.df ?_ ?_); omega)
    | (with_reducible refine Test.d (fun h => ?_) (fun h => ?_))
    | ((with_reducible refine Test.ieT ?_ ?_); omega)
    | ((with_reducible refine Test.ieF ?_ ?_); omega)
    | ((with_reducible refine Test.neT ?_ ?_); omega)
    | ((with_reducible refine Test.neF ?_ ?_); omega)
    | (with_reducible refine Test.ie (fun h => ?_) (fun h => ?_))
    | (with_reducible refine Test.ne (fun h => ?_) (fun h => ?_))
    | ((with_reducible refine Test.b ?_ ?_); (focus first | assumption | (simp [negB]; done) | exact rfl))
    | ((with_reducible refine Test.nb ?_ ?_); (focus first | assumption | (simp [negB]; done) | exact rfl))
    | (with_reducible refine Test.notS (fun h => ?_) (fun h => ?_))
    | (with_reducible refine Test.mk (fun h => ?_) (fun h => ?_))
    | ((with_reducible refine Arith.tdiv ?_ ?_); omega)
    | (with_reducible refine Arith.bv8 ?_)
    | (with_reducible refine Arith.bv16 ?_)
    | (with_reducible refine Arith.bv32 ?_)
    | (with_reducible refine Arith.bv64 ?_)
    | ((with_reducible refine Arith.i64 ?_ ?_); omega)
    | ((with_reducible refine Arith.u64 ?_ ?_); omega)
    | ((with_reducible refine Arith.u32 ?_ ?_); omega)
    | ((with_reducible refine Arith.u16 ?_ ?_); omega)
    | ((with_reducible refine Arith.u8 ?_ ?_); omega)
    | ((with_reducible refine Arith.i32 ?_ ?_); omega)
    | ((with_reducible refine Arith.i64 ?_ ?_); simp (discharger := omega) only [Int.tdiv_eq_ediv_of_nonneg, shr_u8_4, shl_u8_4, shr_u16_4, shl_u16_4, shr_u16_8, shl_u16_8, shr_u32_4, shl_u32_4, shr_u32_8, shl_u32_8, shr_u32_16, shl_u32_16, shr_u32_24, shl_u32_24, shr_u64_4, shl_u64_4, shr_u64_8, shl_u64_8, shr_u64_16, shl_u64_16, shr_u64_24, shl_u64_24, shr_u64_40, shl_u64_40, shr_i64_4, shl_i64_4, shr_i64_8, shl_i64_8, shr_i64_16, shl_i64_16, shr_i64_24, shl_i64_24, shr_i64_40, shl_i64_40]; omega)
    | ((with_reducible refine Arith.u64 ?_ ?_); simp (discharger := omega) only [Int.tdiv_eq_ediv_of_nonneg, shr_u8_4, shl_u8_4, shr_u16_4, shl_u16_4, shr_u16_8, shl_u16_8, shr_u32_4, shl_u32_4, shr_u32_8, shl_u32_8, shr_u32_16, shl_u32_16, shr_u32_24, shl_u32_24, shr_u64_4, shl_u64_4, shr_u64_8, shl_u64_8, shr_u64_16, shl_u64_16, shr_u64_24, shl_u64_24, shr_u64_40, shl_u64_40, shr_i64_4, shl_i64_4, shr_i64_8, shl_i64_8, shr_i64_16, shl_i64_16, shr_i64_24, shl_i64_24, shr_i64_40, shl_i64_40]; omega)
    | ((with_reducible refine Arith.u32 ?_ ?_); simp (discharger := omega) only [Int.tdiv_eq_ediv_of_nonneg, shr_u8_4, shl_u8_4, shr_u16_4, shl_u16_4, shr_u16_8, shl_u16_8, shr_u32_4, shl_u32_4, shr_u32_8, shl_u32_8, shr_u32_16, shl_u32_16, shr_u32_24, shl_u32_24, shr_u64_4, shl_u64_4, shr_u64_8, shl_u64_8, shr_u64_16, shl_u64_16, shr_u64_24, shl_u64_24, shr_u64_40, shl_u64_40, shr_i64_4, shl_i64_4, shr_i64_8, shl_i64_8, shr_i64_16, shl_i64_16, shr_i64_24, shl_i64_24, shr_i64_40, shl_i64_40]; omega)
    | ((with_reducible refine Arith.u16 ?_ ?_); simp (discharger := omega) only [Int.tdiv_eq_ediv_of_nonneg, shr_u8_4, shl_u8_4, shr_u16_4, shl_u16_4, shr_u16_8, shl_u16_8, shr_u32_4, shl_u32_4, shr_u32_8, shl_u32_8, shr_u32_16, shl_u32_16, shr_u32_24, shl_u32_24, shr_u64_4, shl_u64_4, shr_u64_8, shl_u64_8, shr_u64_16, shl_u64_16, shr_u64_24, shl_u64_24, shr_u64_40, shl_u64_40, shr_i64_4, shl_i64_4, shr_i64_8, shl_i64_8, shr_i64_16, shl_i64_16, shr_i64_24, shl_i64_24, shr_i64_40, shl_i64_40]; omega)
    | ((with_reducible refine Arith.u8 ?_ ?_); simp (discharger := omega) only [Int.tdiv_eq_ediv_of_nonneg, shr_u8_4, shl_u8_4, shr_u16_4, shl_u16_4, shr_u16_8, shl_u16_8, shr_u32_4, shl_u32_4, shr_u32_8, shl_u32_8, shr_u32_16, shl_u32_16, shr_u32_24, shl_u32_24, shr_u64_4, shl_u64_4, shr_u64_8, shl_u64_8, shr_u64_16, shl_u64_16, shr_u64_24, shl_u64_24, shr_u64_40, shl_u64_40, shr_i64_4, shl_i64_4, shr_i64_8, shl_i64_8, shr_i64_16, shl_i64_16, shr_i64_24, shl_i64_24, shr_i64_40, shl_i64_40]; omega)
    | (with_reducible refine Arith.mk ?_)
    | (with_reducible refine Ends.mk ?_))
  all_goals first
    | (refine LoopW.rule (fun f sl M => ∃ u l, l ≠ [] ∧ sl = [(0, vS s), (2, .p (.o (.slc 0 0 l.length (.upto 2)))), (3, vI .i64 0), (4, vS u)] ∧ M = [.row true true (optSV l)] ∧ optP f u l = R ∧ u.size < f ∧ l.length + u.size ≤ 41) ?_ s.size (by first | exact ⟨_, [(1, ⟨#[]⟩)], by simp, rfl, rfl, (by (repeat (first | rw [if_pos (by omega)] at h1 | rw [if_neg (by omega)] at h1)); exact h1), (by rw [ByteArray.size_extract]; omega), (by rw [ByteArray.size_extract]; simp only [List.length_singleton]; omega)⟩ | exact ⟨_, [(bAt s (Int.toNat 0), s.extract (Int.toNat 2) (bAt s (Int.toNat 1)).toNat)], by simp, rfl, rfl, (by (repeat (first | rw [if_pos (by omega)] at h1 | rw [if_neg (by omega)] at h1)); exact h1), (by rw [ByteArray.size_extract]; omega), (by rw [ByteArray.size_extract]; simp only [List.length_singleton]; omega)⟩))
    | ((repeat (first | rw [if_pos (by omega)] at h1 | rw [if_neg (by omega)] at h1)); subst h1; exact ⟨rfl, rfl⟩)
  all_goals clear h1 hb0 hb1
  all_goals rintro f sl M ⟨u, l, hl, rfl, rfl, h1, h2, h3⟩ X hX
  all_goals cases f with
  | zero => omega
  | succ f =>
    have hb0 := bAt_bd u (Int.toNat 0)
    have hb1 := bAt_bd u (Int.toNat 1)
    rw [optP] at h1
    repeat' ((conv => whnf); first
    | ((with_reducible refine Look.mk ?_); refine ⟨_, rfl, ?_⟩)
    | ((with_reducible refine LookN.zeros ?_))
    | ((with_reducible refine LookN.bytes ?_ ?_); (simp; done))
    | ((with_reducible refine BytesW.bytes ?_))
    | ((with_reducible refine Look.byte ?_ ?_); omega)
    | ((with_reducible refine Look.setb ?_ ?_ ?_); exact bv8_bd _; omega)
    | ((with_reducible refine LookN.setb ?_ ?_ ?_); exact bv8_bd _; omega)
    | ((with_reducible refine LookN.mk ?_); refine ⟨_, rfl, ?_⟩)
    | ((with_reducible refine Need.mk ?_ ?_); first | ((with_reducible refine needB ?_); kernel_rfl) | with_reducible rfl | omega | (with_reducible refine ⟨rfl, ?_⟩; focus omega) | (simp only [ByteArray.size_append, size_lit, List.size_toArray, List.length_cons, List.length_nil, Sp.ofB_size, ByteArray.size_extract]; omega) | exact rfl | trivial | exact Nat.le_of_ble_eq_true rfl | (exact ⟨rfl, by omega⟩) | (intro h; first | rfl | cases h) | (simp only [lenS_text, lenS_setN, lenS_zeros]; omega))
    | ((with_reducible refine BytesW.mk ?_); refine ⟨_, rfl, ?_⟩)
    | (with_reducible refine need_app rfl rfl (by rw [lenS_optSV]; omega) (by omega) ?_)
    | (refine hX f (Nat.lt_succ_self f) _ _ ⟨_, l ++ [(1, ⟨#[]⟩)], by simp, (by rw [List.length_append]; rfl), (by rw [← optSV_snoc]), (by (repeat (first | rw [if_pos (by omega)] at h1 | rw [if_neg (by omega)] at h1)); exact h1), (by rw [ByteArray.size_extract]; omega), (by rw [ByteArray.size_extract, List.length_append]; simp only [List.length_singleton]; omega)⟩)
    | (refine hX f (Nat.lt_succ_self f) _ _ ⟨_, l ++ [(bAt u (Int.toNat 0), u.extract (Int.toNat 2) (bAt u (Int.toNat 1)).toNat)], by simp, (by rw [List.length_append]; rfl), (by rw [← optSV_snoc]), (by (repeat (first | rw [if_pos (by omega)] at h1 | rw [if_neg (by omega)] at h1)); exact h1), (by rw [ByteArray.size_extract]; omega), (by rw [ByteArray.size_extract, List.length_append]; simp only [List.length_singleton]; omega)⟩)
    | ((with_reducible refine Test.tmodEqT ?_ ?_ ?_); omega; focus first | omega | assumption)
    | ((with_reducible refine Test.tmodEqF ?_ ?_ ?_); omega; focus first | omega | assumption)
    | ((with_reducible refine Test.tmodNeT ?_ ?_ ?_); omega; focus first | omega | assumption)
    | ((with_reducible refine Test.tmodNeF ?_ ?_ ?_); omega; focus first | omega | assumption)
    | ((with_reducible refine Test.tmodEq ?_ (fun h => ?_) (fun h => ?_)); omega)
    | ((with_reducible refine Test.tmodNe ?_ (fun h => ?_) (fun h => ?_)); omega)
    | ((with_reducible refine Test.notT ?_ ?_); focus assumption)
    | ((with_reducible refine Test.notF ?_ ?_); focus assumption)
    | (with_reducible refine Test.notIe (fun h => ?_) (fun h => ?_))
    | (with_reducible refine Test.notD (fun h => ?_) (fun h => ?_))
    | ((with_reducible refine Test.empty (fun h => ?_) (fun h => ?_)))
    | (with_reducible refine Test.tt ?_)
    | (with_reducible refine Test.ff ?_)
    | ((with_reducible refine Test.dt ?_ ?_); omega)
    | ((with_reducible refine Test.df ?_ ?_); omega)
    | (with_reducible refine Test.d (fun h => ?_) (fun h => ?_))
    | ((with_reducible refine Test.ieT ?_ ?_); omega)
    | ((with_reducible refine Test.ieF ?_ ?_); omega)
    | ((with_reducible refine Test.neT ?_ ?_); omega)
    | ((with_reducible refine Test.neF ?_ ?_); omega)
    | (with_reducible refine Test.ie (fun h => ?_) (fun h => ?_))
    | (with_reducible refine Test.ne (fun h => ?_) (fun h => ?_))
    | ((with_reducible refine Test.b ?_ ?_); (focus first | assumption | (simp [negB]; done) | exact rfl))
    | ((with_reducible refine Test.nb ?_ ?_); (focus first | assumption | (simp [negB]; done) | exact rfl))
    | (with_reducible refine Test.notS (fun h => ?_) (fun h => ?_))
    | (with_reducible refine Test.mk (fun h => ?_) (fun h => ?_))
    | ((with_reducible refine Arith.tdiv ?_ ?_); omega)
    | (with_reducible refine Arith.bv8 ?_)
    | (with_reducible refine Arith.bv16 ?_)
    | (with_reducible refine Arith.bv32 ?_)
    | (with_reducible refine Arith.bv64 ?_)
    | ((with_reducible refine Arith.i64 ?_ ?_); omega)
    | ((with_reducible refine Arith.u64 ?_ ?_); omega)
    | ((with_reducible refine Arith.u32 ?_ ?_); omega)
    | ((with_reducible refine Arith.u16 ?_ ?_); omega)
    | ((with_reducible refine Arith.u8 ?_ ?_); omega)
    | ((with_reducible refine Arith.i32 ?_ ?_); omega)
    | ((with_reducible refine Arith.i64 ?_ ?_); simp (discharger := omega) only [Int.tdiv_eq_ediv_of_nonneg, shr_u8_4, shl_u8_4, shr_u16_4, shl_u16_4, shr_u16_8, shl_u16_8, shr_u32_4, shl_u32_4, shr_u32_8, shl_u32_8, shr_u32_16, shl_u32_16, shr_u32_24, shl_u32_24, shr_u64_4, shl_u64_4, shr_u64_8, shl_u64_8, shr_u64_16, shl_u64_16, shr_u64_24, shl_u64_24, shr_u64_40, shl_u64_40, shr_i64_4, shl_i64_4, shr_i64_8, shl_i64_8, shr_i64_16, shl_i64_16, shr_i64_24, shl_i64_24, shr_i64_40, shl_i64_40]; omega)
    | ((with_reducible refine Arith.u64 ?_ ?_); simp (discharger := omega) only [Int.tdiv_eq_ediv_of_nonneg, shr_u8_4, shl_u8_4, shr_u16_4, shl_u16_4, shr_u16_8, shl_u16_8, shr_u32_4, shl_u32_4, shr_u32_8, shl_u32_8, shr_u32_16, shl_u32_16, shr_u32_24, shl_u32_24, shr_u64_4, shl_u64_4, shr_u64_8, shl_u64_8, shr_u64_16, shl_u64_16, shr_u64_24, shl_u64_24, shr_u64_40, shl_u64_40, shr_i64_4, shl_i64_4, shr_i64_8, shl_i64_8, shr_i64_16, shl_i64_16, shr_i64_24, shl_i64_24, shr_i64_40, shl_i64_40]; omega)
    | ((with_reducible refine Arith.u32 ?_ ?_); simp (discharger := omega) only [Int.tdiv_eq_ediv_of_nonneg, shr_u8_4, shl_u8_4, shr_u16_4, shl_u16_4, shr_u16_8, shl_u16_8, shr_u32_4, shl_u32_4, shr_u32_8, shl_u32_8, shr_u32_16, shl_u32_16, shr_u32_24, shl_u32_24, shr_u64_4, shl_u64_4, shr_u64_8, shl_u64_8, shr_u64_16, shl_u64_16, shr_u64_24, shl_u64_24, shr_u64_40, shl_u64_40, shr_i64_4, shl_i64_4, shr_i64_8, shl_i64_8, shr_i64_16, shl_i64_16, shr_i64_24, shl_i64_24, shr_i64_40, shl_i64_40]; omega)
    | ((with_reducible refine Arith.u16 ?_ ?_); simp (discharger := omega) only [Int.tdiv_eq_ediv_of_nonneg, shr_u8_4, shl_u8_4, shr_u16_4, shl_u16_4, shr_u16_8, shl_u16_8, shr_u32_4, shl_u32_4, shr_u32_8, shl_u32_8, shr_u32_16, shl_u32_16, shr_u32_24, shl_u32_24, shr_u64_4, shl_u64_4, shr_u64_8, shl_u64_8, shr_u64_16, shl_u64_16, shr_u64_24, shl_u64_24, shr_u64_40, shl_u64_40, shr_i64_4, shl_i64_4, shr_i64_8, shl_i64_8, shr_i64_16, shl_i64_16, shr_i64_24, shl_i64_24, shr_i64_40, shl_i64_40]; omega)
    | ((with_reducible refine Arith.u8 ?_ ?_); simp (discharger := omega) only [Int.tdiv_eq_ediv_of_nonneg, shr_u8_4, shl_u8_4, shr_u16_4, shl_u16_4, shr_u16_8, shl_u16_8, shr_u32_4, shl_u32_4, shr_u32_8, shl_u32_8, shr_u32_16, shl_u32_16, shr_u32_24, shl_u32_24, shr_u64_4, shl_u64_4, shr_u64_8, shl_u64_8, shr_u64_16, shl_u64_16, shr_u64_24, shl_u64_24, shr_u64_40, shl_u64_40, shr_i64_4, shl_i64_4, shr_i64_8, shl_i64_8, shr_i64_16, shl_i64_16, shr_i64_24, shl_i64_24, shr_i64_40, shl_i64_40]; omega)
    | (with_reducible refine Arith.mk ?_)
    | (with_reducible refine Ends.mk ?_))
    all_goals first
      | ((repeat (first | rw [if_pos (by omega)] at h1 | rw [if_neg (by omega)] at h1)); subst h1; refine ⟨?_, ?_⟩ <;> first | rfl | (rw [optV_ne hl]) | (rw [optM_ne hl]))
     
def vf_ref10_Options : VFn := ⟨(.seq (.reg [
    ⟨(some 2), .mv (.c (.p (.o (.nils)))), none, 0⟩,
    ⟨(some 3), .mv (.c (.p (.o (.int .i64 0)))), none, 0⟩] 0 none) (.seq (.seq (.reg [
    ⟨(some 7), .mv (.t 0), none, 0⟩,
    ⟨(some 8), .len false (.t 7), none, 0⟩,
    ⟨(some 9), .bin .gtr (.t 8) (.c (.p (.o (.int .i64 40)))), none, 0⟩] 0 none) (.cond (.t 9) (.seq (.reg [
    ⟨(some 2), .mv (.c (.p (.o (.nils)))), none, 0⟩,
    ⟨(some 3), .mv (.c (.p (.o (.int .i64 4)))), none, 0⟩] 0 none) .ret) .skip)) (.seq (.reg [
    ⟨(some 4), .mv (.c (.p (.o (.nils)))), none, 0⟩] 0 none) (.seq (.seq (.reg [
    ⟨(some 5), .mv (.c (.p (.o (.int .i64 0)))), none, 0⟩] 0 none) (.block 0 (.loop (.seq (.seq (.reg [
    ⟨(some 10), .mv (.t 5), none, 0⟩,
    ⟨(some 11), .mv (.t 0), none, 0⟩,
    ⟨(some 12), .len false (.t 11), none, 0⟩,
    ⟨(some 13), .bin .lss (.t 10) (.t 12), none, 0⟩,
    ⟨(some 14), .mv (.t 13), none, 0⟩,
    ⟨(some 15), .mv (.t 0), (some (14, true)), 0⟩,
    ⟨(some 16), .mv (.t 5), (some (14, true)), 0⟩,
    ⟨(some 17), .ixs (.t 15) (.t 16), (some (14, true)), 0⟩,
    ⟨(some 18), .bin .neq (.t 17) (.c (.p (.o (.int .u8 0)))), (some (14, true)), 0⟩,
    ⟨(some 19), .pick (.t 14) (.t 18) (.c (.p (.o (.bool false)))), none, 0⟩] 0 none) (.cond (.t 19) .skip (.exit 0))) (.block 1 (.seq (.seq (.reg [
    ⟨(some 20), .mv (.t 0), none, 0⟩,
    ⟨(some 21), .mv (.t 5), none, 0⟩,
    ⟨(some 22), .ixs (.t 20) (.t 21), none, 0⟩,
    ⟨(some 23), .bin .eql (.t 22) (.c (.p (.o (.int .u8 1)))), none, 0⟩] 0 none) (.cond (.t 23) (.seq (.reg [
    ⟨(some 24), .mv (.t 4), none, 0⟩,
    ⟨(some 25), .bld [.int .u8 0, .str ⟨#[]⟩] [(0, 1, (.c (.p (.o (.int .u8 1)))))], none, 0⟩,
    ⟨(some 26), .bsl 1 [.int .u8 0, .str ⟨#[]⟩] [(0, 2, (.t 25))], none, 0⟩,
    ⟨(some 27), .app 2 24 (.t 24) (.t 26), none, 1⟩,
    ⟨(some 4), .mv (.t 27), none, 2⟩] 2 none) (.seq (.reg [
    ⟨(some 28), .mv (.t 5), none, 0⟩,
    ⟨(some 29), .bin .add (.t 28) (.c (.p (.o (.int .i64 1)))), none, 0⟩,
    ⟨(some 5), .mv (.t 29), none, 0⟩] 0 none) (.exit 1))) .skip)) (.seq (.seq (.reg [
    ⟨(some 30), .mv (.t 5), none, 0⟩,
    ⟨(some 31), .bin .add (.t 30) (.c (.p (.o (.int .i64 1)))), none, 0⟩,
    ⟨(some 32), .mv (.t 0), none, 0⟩,
    ⟨(some 33), .len false (.t 32), none, 0⟩,
    ⟨(some 34), .bin .geq (.t 31) (.t 33), none, 0⟩,
    ⟨(some 35), .mv (.t 34), none, 0⟩,
    ⟨(some 36), .mv (.t 0), (some (35, false)), 0⟩,
    ⟨(some 37), .mv (.t 5), (some (35, false)), 0⟩,
    ⟨(some 38), .bin .add (.t 37) (.c (.p (.o (.int .i64 1)))), (some (35, false)), 0⟩,
    ⟨(some 39), .ixs (.t 36) (.t 38), (some (35, false)), 0⟩,
    ⟨(some 40), .bin .lss (.t 39) (.c (.p (.o (.int .u8 2)))), (some (35, false)), 0⟩,
    ⟨(some 41), .pick (.t 35) (.c (.p (.o (.bool true)))) (.t 40), none, 0⟩,
    ⟨(some 42), .mv (.t 41), none, 0⟩,
    ⟨(some 43), .mv (.t 5), (some (42, false)), 0⟩,
    ⟨(some 44), .mv (.t 0), (some (42, false)), 0⟩,
    ⟨(some 45), .mv (.t 5), (some (42, false)), 0⟩,
    ⟨(some 46), .bin .add (.t 45) (.c (.p (.o (.int .i64 1)))), (some (42, false)), 0⟩,
    ⟨(some 47), .ixs (.t 44) (.t 46), (some (42, false)), 0⟩,
    ⟨(some 48), .cvi .i64 (.t 47), (some (42, false)), 0⟩,
    ⟨(some 49), .bin .add (.t 43) (.t 48), (some (42, false)), 0⟩,
    ⟨(some 50), .mv (.t 0), (some (42, false)), 0⟩,
    ⟨(some 51), .len false (.t 50), (some (42, false)), 0⟩,
    ⟨(some 52), .bin .gtr (.t 49) (.t 51), (some (42, false)), 0⟩,
    ⟨(some 53), .pick (.t 42) (.c (.p (.o (.bool true)))) (.t 52), none, 0⟩] 0 none) (.cond (.t 53) (.seq (.reg [
    ⟨(some 2), .mv (.c (.p (.o (.nils)))), none, 0⟩,
    ⟨(some 3), .mv (.c (.p (.o (.int .i64 102)))), none, 0⟩] 0 none) .ret) .skip)) (.seq (.reg [
    ⟨(some 54), .mv (.t 0), none, 0⟩,
    ⟨(some 55), .mv (.t 5), none, 0⟩,
    ⟨(some 56), .bin .add (.t 55) (.c (.p (.o (.int .i64 1)))), none, 0⟩,
    ⟨(some 57), .ixs (.t 54) (.t 56), none, 0⟩,
    ⟨(some 58), .cvi .i64 (.t 57), none, 0⟩,
    ⟨(some 6), .mv (.t 58), none, 0⟩] 0 none) (.seq (.reg [
    ⟨(some 59), .mv (.t 4), none, 0⟩,
    ⟨(some 60), .mv (.t 0), none, 0⟩,
    ⟨(some 61), .mv (.t 5), none, 0⟩,
    ⟨(some 62), .ixs (.t 60) (.t 61), none, 0⟩,
    ⟨(some 63), .mv (.t 0), none, 0⟩,
    ⟨(some 64), .mv (.t 5), none, 0⟩,
    ⟨(some 65), .bin .add (.t 64) (.c (.p (.o (.int .i64 2)))), none, 0⟩,
    ⟨(some 66), .mv (.t 5), none, 0⟩,
    ⟨(some 67), .mv (.t 6), none, 0⟩,
    ⟨(some 68), .bin .add (.t 66) (.t 67), none, 0⟩,
    ⟨(some 69), .sls (.t 63) (some (.t 65)) (some (.t 68)), none, 0⟩,
    ⟨(some 70), .bld [.int .u8 0, .str ⟨#[]⟩] [(0, 1, (.t 62)), (1, 1, (.t 69))], none, 0⟩,
    ⟨(some 71), .bsl 1 [.int .u8 0, .str ⟨#[]⟩] [(0, 2, (.t 70))], none, 0⟩,
    ⟨(some 72), .app 2 24 (.t 59) (.t 71), none, 1⟩,
    ⟨(some 4), .mv (.t 72), none, 2⟩] 2 (some [(0, 1), (0, 2), (1, 2), (0, 3), (0, 4), (1, 4), (2, 4), (3, 4), (0, 5), (1, 5), (2, 5), (3, 5), (4, 5), (0, 6), (1, 6), (2, 6), (3, 6), (4, 6), (0, 7), (1, 7), (2, 7), (3, 7), (4, 7), (5, 7), (6, 7), (0, 8), (1, 8), (2, 8), (3, 8), (4, 8), (5, 8), (6, 8), (7, 8), (0, 9), (1, 9), (2, 9), (3, 9), (4, 9), (5, 9), (6, 9), (0, 10), (1, 10), (2, 10), (3, 10), (0, 11), (0, 12)])) (.reg [
    ⟨(some 73), .mv (.t 5), none, 0⟩,
    ⟨(some 74), .mv (.t 6), none, 0⟩,
    ⟨(some 75), .bin .add (.t 73) (.t 74), none, 0⟩,
    ⟨(some 5), .mv (.t 75), none, 0⟩] 0 none)))))))))) (.seq (.reg [
    ⟨(some 76), .mv (.t 4), none, 0⟩,
    ⟨(some 2), .mv (.t 76), none, 0⟩,
    ⟨(some 3), .mv (.c (.p (.o (.int .i64 0)))), none, 0⟩] 0 none) .ret))))),
  [.tmp 2, .tmp 3], 77, [0, 2, 3, 4, 5, 6]⟩
theorem ok_ref10_Options : cFn Try.prog eqsT newsT vf_ref10_Options.keep Try.f40 = some vf_ref10_Options := by kernel_rfl
theorem optV_snoc (l : List (Int × ByteArray)) (y : Int × ByteArray) : optV (l ++ [y]) = .slc 0 0 (l.length + 1) (.upto 2) := by
  cases l with
  | nil => rfl
  | cons x l => simp only [List.cons_append, optV, List.length_append, List.length_cons, List.length_nil]
theorem optM_snoc (l : List (Int × ByteArray)) (y : Int × ByteArray) : optM (l ++ [y]) = [.row true true (optSV (l ++ [y]))] := by
  cases l with
  | nil => rfl
  | cons x l => rfl
theorem tail_mid (s : ByteArray) (a i j : Nat) (hj : a + j ≤ s.size) : (s.extract a s.size).extract i j = s.extract (a + i) (a + j) := by
  apply ba_ext
  have ht : List.take s.size s.data.toList = s.data.toList := List.take_of_length_le (by rw [Sp.size_toList]; exact Nat.le_refl _)
  rw [Sp.extract_toList, Sp.extract_toList, Sp.extract_toList, ht, List.take_drop, List.drop_drop]
theorem optP_at (f : Nat) (s : ByteArray) (a : Int) (l : List (Int × ByteArray)) (h0 : 0 ≤ a) (h : a ≤ s.size) : optP (f + 1) (s.extract a.toNat s.size) l =
    if (s.size : Int) ≤ a then some l else if bAt s a.toNat = 0 then some l else if bAt s a.toNat = 1 then optP f (s.extract (a + 1).toNat s.size) (l ++ [(1, ⟨#[]⟩)])
    else if (s.size : Int) < a + 2 then none else if bAt s (a + 1).toNat < 2 then none else if a + bAt s (a + 1).toNat > s.size then none
    else optP f (s.extract (a + bAt s (a + 1).toNat).toNat s.size) (l ++ [(bAt s a.toNat, s.extract (a + 2).toNat (a + bAt s (a + 1).toNat).toNat)]) := by
  obtain ⟨k, rfl⟩ := Int.eq_ofNat_of_zero_le h0
  have e0 : bAt (s.extract (k : Int).toNat s.size) (Int.toNat 0) = bAt s (k : Int).toNat := by rw [bAt_tail]; congr 1
  have e1 : bAt (s.extract (k : Int).toNat s.size) (Int.toNat 1) = bAt s ((k : Int) + 1).toNat := by rw [bAt_tail]; congr 1
  have x1 : (s.extract (k : Int).toNat s.size).extract 1 (s.extract (k : Int).toNat s.size).size = s.extract ((k : Int) + 1).toNat s.size := by rw [extract_tail _ _ _ _ rfl]; congr 1
  have bd := bAt_bd s ((k : Int) + 1).toNat
  have x2 : (s.extract (k : Int).toNat s.size).extract (bAt s ((k : Int) + 1).toNat).toNat (s.extract (k : Int).toNat s.size).size = s.extract ((k : Int) + bAt s ((k : Int) + 1).toNat).toNat s.size := by rw [extract_tail _ _ _ _ rfl]; congr 1 <;> omega
  have hz : (s.extract (k : Int).toNat s.size).size = s.size - k := by rw [ByteArray.size_extract]; omega
  rw [optP, e0, e1, x1, x2, hz]
  by_cases c1 : (s.size : Int) ≤ k
  · rw [if_pos (by omega), if_pos c1]
  rw [if_neg (show ¬ s.size - k = 0 by omega), if_neg c1]
  by_cases c2 : bAt s (k : Int).toNat = 0
  · rw [if_pos c2, if_pos c2]
  rw [if_neg c2, if_neg c2]
  by_cases c3 : bAt s (k : Int).toNat = 1
  · rw [if_pos c3, if_pos c3]
  rw [if_neg c3, if_neg c3]
  by_cases c4 : (s.size : Int) < k + 2
  · rw [if_pos (show s.size - k < 2 by omega), if_pos c4]
  rw [if_neg (show ¬ s.size - k < 2 by omega), if_neg c4]
  by_cases c5 : bAt s ((k : Int) + 1).toNat < 2
  · rw [if_pos c5, if_pos c5]
  rw [if_neg c5, if_neg c5]
  by_cases c6 : (k : Int) + bAt s ((k : Int) + 1).toNat > s.size
  · rw [if_pos (show bAt s ((k : Int) + 1).toNat > ((s.size - k : Nat) : Int) by omega), if_pos c6]
  rw [if_neg (show ¬ bAt s ((k : Int) + 1).toNat > ((s.size - k : Nat) : Int) by omega), if_neg c6, tail_mid _ _ _ _ (by omega)]
  congr 5 <;> omega
set_option maxHeartbeats 8000000 in
theorem roptions_can (s : ByteArray) (hs : s.size ≤ 40) (R : Option (List (Int × ByteArray))) (h1 : optP (s.size + 1) s [] = R) : Can Try.prog 40 [.o (.str s)] [] (optR R) := by
  refine can_of_W known mix Try.func40 (by kernel_rfl) ok_ref10_Options (Nat.le_of_ble_eq_true rfl) ?_
  repeat' ((conv => whnf); first
    | ((with_reducible refine Look.mk ?_); refine ⟨_, rfl, ?_⟩)
    | ((with_reducible refine LookN.zeros ?_))
    | ((with_reducible refine LookN.bytes ?_ ?_); (simp; done))
    | ((with_reducible refine BytesW.bytes ?_))
    | ((with_reducible refine Look.byte ?_ ?_); omega)
    | ((with_reducible refine Look.setb ?_ ?_ ?_); exact bv8_bd _; omega)
    | ((with_reducible refine LookN.setb ?_ ?_ ?_); exact bv8_bd _; omega)
    | ((with_reducible refine LookN.mk ?_); refine ⟨_, rfl, ?_⟩)
    | ((with_reducible refine Need.mk ?_ ?_); first | ((with_reducible refine needB ?_); kernel_rfl) | with_reducible rfl | omega | (with_reducible refine ⟨rfl, ?_⟩; focus omega) | (simp only [ByteArray.size_append, size_lit, List.size_toArray, List.length_cons, List.length_nil, Sp.ofB_size, ByteArray.size_extract]; omega) | exact rfl | trivial | exact Nat.le_of_ble_eq_true rfl | (exact ⟨rfl, by omega⟩) | (intro h; first | rfl | cases h) | (simp only [lenS_text, lenS_setN, lenS_zeros]; omega))
    | ((with_reducible refine BytesW.mk ?_); refine ⟨_, rfl, ?_⟩)
    | ((with_reducible refine Test.tmodEqT ?_ ?_ ?_); omega; focus first | omega | assumption)
    | ((with_reducible refine Test.tmodEqF ?_ ?_ ?_); omega; focus first | omega | assumption)
    | ((with_reducible refine Test.tmodNeT ?_ ?_ ?_); omega; focus first | omega | assumption)
    | ((with_reducible refine Test.tmodNeF ?_ ?_ ?_); omega; focus first | omega | assumption)
    | ((with_reducible refine Test.tmodEq ?_ (fun h => ?_) (fun h => ?_)); omega)
    | ((with_reducible refine Test.tmodNe ?_ (fun h => ?_) (fun h => ?_)); omega)
    | ((with_reducible refine Test.notT ?_ ?_); focus assumption)
    | ((with_reducible refine Test.notF ?_ ?_); focus assumption)
    | (with_reducible refine Test.notIe (fun h => ?_) (fun h => ?_))
    | (with_reducible refine Test.notD (fun h => ?_) (fun h => ?_))
    | ((with_reducible refine Test.empty (fun h => ?_) (fun h => ?_)))
    | (with_reducible refine Test.tt ?_)
    | (with_reducible refine Test.ff ?_)
    | ((with_reducible refine Test.dt ?_ ?_); omega)
    | ((with_reducible refine Test.df ?_ ?_); omega)
    | (with_reducible refine Test.d (fun h => ?_) (fun h => ?_))
    | ((with_reducible refine Test.ieT ?_ ?_); omega)
    | ((with_reducible refine Test.ieF ?_ ?_); omega)
    | ((with_reducible refine Test.neT ?_ ?_); omega)
    | ((with_reducible refine Test.neF ?_ ?_); omega)
    | (with_reducible refine Test.ie (fun h => ?_) (fun h => ?_))
    | (with_reducible refine Test.ne (fun h => ?_) (fun h => ?_))
    | ((with_reducible refine Test.b ?_ ?_); (focus first | assumption | (simp [negB]; done) | exact rfl))
    | ((with_reducible refine Test.nb ?_ ?_); (focus first | assumption | (simp [negB]; done) | exact rfl))
    | (with_reducible refine Test.notS (fun h => ?_) (fun h => ?_))
    | (with_reducible refine Test.mk (fun h => ?_) (fun h => ?_))
    | ((with_reducible refine Arith.tdiv ?_ ?_); omega)
    | (with_reducible refine Arith.bv8 ?_)
    | (with_reducible refine Arith.bv16 ?_)
    | (with_reducible refine Arith.bv32 ?_)
    | (with_reducible refine Arith.bv64 ?_)
    | ((with_reducible refine Arith.i64 ?_ ?_); omega)
    | ((with_reducible refine Arith.u64 ?_ ?_); omega)
    | ((with_reducible refine Arith.u32 ?_ ?_); omega)
    | ((with_reducible refine Arith.u16 ?_ ?_); omega)
    | ((with_reducible refine Arith.u8 ?_ ?_); omega)
    | ((with_reducible refine Arith.i32 ?_ ?_); omega)
    | ((with_reducible refine Arith.i64 ?_ ?_); simp (discharger := omega) only [Int.tdiv_eq_ediv_of_nonneg, shr_u8_4, shl_u8_4, shr_u16_4, shl_u16_4, shr_u16_8, shl_u16_8, shr_u32_4, shl_u32_4, shr_u32_8, shl_u32_8, shr_u32_16, shl_u32_16, shr_u32_24, shl_u32_24, shr_u64_4, shl_u64_4, shr_u64_8, shl_u64_8, shr_u64_16, shl_u64_16, shr_u64_24, shl_u64_24, shr_u64_40, shl_u64_40, shr_i64_4, shl_i64_4, shr_i64_8, shl_i64_8, shr_i64_16, shl_i64_16, shr_i64_24, shl_i64_24, shr_i64_40, shl_i64_40]; omega)
    | ((with_reducible refine Arith.u64 ?_ ?_); simp (discharger := omega) only [Int.tdiv_eq_ediv_of_nonneg, shr_u8_4, shl_u8_4, shr_u16_4, shl_u16_4, shr_u16_8, shl_u16_8, shr_u32_4, shl_u32_4, shr_u32_8, shl_u32_8, shr_u32_16, shl_u32_16, shr_u32_24, shl_u32_24, shr_u64_4, shl_u64_4, shr_u64_8, shl_u64_8, shr_u64_16, shl_u64_16, shr_u64_24, shl_u64_24, shr_u64_40, shl_u64_40, shr_i64_4, shl_i64_4, shr_i64_8, shl_i64_8, shr_i64_16, shl_i64_16, shr_i64_24, shl_i64_24, shr_i64_40, shl_i64_40]; omega)
    | ((with_reducible refine Arith.u32 ?_ ?_); simp (discharger := omega) only [Int.tdiv_eq_ediv_of_nonneg, shr_u8_4, shl_u8_4, shr_u16_4, shl_u16_4, shr_u16_8, shl_u16_8, shr_u32_4, shl_u32_4, shr_u32_8, shl_u32_8, shr_u32_16, shl_u32_16, shr_u32_24, shl_u32_24, shr_u64_4, shl_u64_4, shr_u64_8, shl_u64_8, shr_u64_16, shl_u64_16, shr_u64_24, shl_u64_24, shr_u64_40, shl_u64_40, shr_i64_4, shl_i64_4, shr_i64_8, shl_i64_8, shr_i64_16, shl_i64_16, shr_i64_24, shl_i64_24, shr_i64_40, shl_i64_40]; omega)
    | ((with_reducible refine Arith.u16 ?_ ?_); simp (discharger := omega) only [Int.tdiv_eq_ediv_of_nonneg, shr_u8_4, shl_u8_4, shr_u16_4, shl_u16_4, shr_u16_8, shl_u16_8, shr_u32_4, shl_u32_4, shr_u32_8, shl_u32_8, shr_u32_16, shl_u32_16, shr_u32_24, shl_u32_24, shr_u64_4, shl_u64_4, shr_u64_8, shl_u64_8, shr_u64_16, shl_u64_16, shr_u64_24, shl_u64_24, shr_u64_40, shl_u64_40, shr_i64_4, shl_i64_4, shr_i64_8, shl_i64_8, shr_i64_16, shl_i64_16, shr_i64_24, shl_i64_24, shr_i64_40, shl_i64_40]; omega)
    | ((with_reducible refine Arith.u8 ?_ ?_); simp (discharger := omega) only [Int.tdiv_eq_ediv_of_nonneg, shr_u8_4, shl_u8_4, shr_u16_4, shl_u16_4, shr_u16_8, shl_u16_8, shr_u32_4, shl_u32_4, shr_u32_8, shl_u32_8, shr_u32_16, shl_u32_16, shr_u32_24, shl_u32_24, shr_u64_4, shl_u64_4, shr_u64_8, shl_u64_8, shr_u64_16, shl_u64_16, shr_u64_24, shl_u64_24, shr_u64_40, shl_u64_40, shr_i64_4, shl_i64_4, shr_i64_8, shl_i64_8, shr_i64_16, shl_i64_16, shr_i64_24, shl_i64_24, shr_i64_40, shl_i64_40]; omega)
    | (with_reducible refine Arith.mk ?_)
    | (with_reducible refine Ends.mk ?_))
  refine LoopW.rule (fun f sl M => ∃ a l, (sl = [(0, vS s), (2, vO .nils), (3, vI .i64 0), (4, vO (optV l)), (5, vI .i64 a)] ∨ ∃ n : Int, sl = [(0, vS s), (2, vO .nils), (3, vI .i64 0), (4, vO (optV l)), (5, vI .i64 a), (6, vI .i64 n)]) ∧ M = optM l ∧ optP f (s.extract a.toNat s.size) l = R ∧ 0 ≤ a ∧ a ≤ s.size ∧ s.size - a < f ∧ l.length + s.size ≤ 40 + a) ?_ (s.size + 1) ⟨0, [], .inl rfl, rfl, by rw [show s.extract (Int.toNat 0) s.size = s from Sp.extract_whole' s]; exact h1, by omega, by omega, by omega, by simp only [List.length_nil]; omega⟩
  clear h1
  rintro f sl M ⟨a, l, hsl, rfl, h1, ha0, ha1, ha2, h3⟩ X hX
  cases f with
  | zero => omega
  | succ f =>
    have hb0 := bAt_bd s a.toNat
    have hb1 := bAt_bd s (a + 1).toNat
    rw [optP_at f s a l ha0 ha1] at h1
    cases l with
    | nil =>
      rcases hsl with rfl | ⟨n, rfl⟩
      all_goals repeat' ((conv => whnf); first
    | ((with_reducible refine Look.mk ?_); refine ⟨_, rfl, ?_⟩)
    | ((with_reducible refine LookN.zeros ?_))
    | ((with_reducible refine LookN.bytes ?_ ?_); (simp; done))
    | ((with_reducible refine BytesW.bytes ?_))
    | ((with_reducible refine Look.byte ?_ ?_); omega)
    | ((with_reducible refine Look.setb ?_ ?_ ?_); exact bv8_bd _; omega)
    | ((with_reducible refine LookN.setb ?_ ?_ ?_); exact bv8_bd _; omega)
    | ((with_reducible refine LookN.mk ?_); refine ⟨_, rfl, ?_⟩)
    | ((with_reducible refine Need.mk ?_ ?_); first | ((with_reducible refine needB ?_); kernel_rfl) | with_reducible rfl | omega | (with_reducible refine ⟨rfl, ?_⟩; focus omega) | (simp only [ByteArray.size_append, size_lit, List.size_toArray, List.length_cons, List.length_nil, Sp.ofB_size, ByteArray.size_extract]; omega) | exact rfl | trivial | exact Nat.le_of_ble_eq_true rfl | (exact ⟨rfl, by omega⟩) | (intro h; first | rfl | cases h) | (simp only [lenS_text, lenS_setN, lenS_zeros]; omega))
    | ((with_reducible refine BytesW.mk ?_); refine ⟨_, rfl, ?_⟩)
    | (refine hX f (Nat.lt_succ_self f) _ _ ⟨_, [] ++ [(1, ⟨#[]⟩)], (by rw [optV_snoc]; first | exact .inl rfl | exact .inr ⟨_, rfl⟩), (by rw [optM_snoc, ← optSV_snoc]; try rfl), (by (repeat (first | rw [if_pos (by omega)] at h1 | rw [if_neg (by omega)] at h1)); exact h1), (by omega), (by omega), (by omega), (by rw [List.length_append]; simp only [List.length_cons, List.length_nil] at h3 ⊢; omega)⟩)
    | (refine hX f (Nat.lt_succ_self f) _ _ ⟨_, [] ++ [(bAt s a.toNat, s.extract (a + 2).toNat (a + bAt s (a + 1).toNat).toNat)], (by rw [optV_snoc]; first | exact .inl rfl | exact .inr ⟨_, rfl⟩), (by rw [optM_snoc, ← optSV_snoc]; try rfl), (by (repeat (first | rw [if_pos (by omega)] at h1 | rw [if_neg (by omega)] at h1)); exact h1), (by omega), (by omega), (by omega), (by rw [List.length_append]; simp only [List.length_cons, List.length_nil] at h3 ⊢; omega)⟩)
    | ((with_reducible refine Test.tmodEqT ?_ ?_ ?_); omega; focus first | omega | assumption)
    | ((with_reducible refine Test.tmodEqF ?_ ?_ ?_); omega; focus first | omega | assumption)
    | ((with_reducible refine Test.tmodNeT ?_ ?_ ?_); omega; focus first | omega | assumption)
    | ((with_reducible refine Test.tmodNeF ?_ ?_ ?_); omega; focus first | omega | assumption)
    | ((with_reducible refine Test.tmodEq ?_ (fun h => ?_) (fun h => ?_)); omega)
    | ((with_reducible refine Test.tmodNe ?_ (fun h => ?_) (fun h => ?_)); omega)
    | ((with_reducible refine Test.notT ?_ ?_); focus assumption)
    | ((with_reducible refine Test.notF ?_ ?_); focus assumption)
    | (with_reducible refine Test.notIe (fun h => ?_) (fun h => ?_))
    | (with_reducible refine Test.notD (fun h => ?_) (fun h => ?_))
    | ((with_reducible refine Test.empty (fun h => ?_) (fun h => ?_)))
    | (with_reducible refine Test.tt ?_)
    | (with_reducible refine Test.ff ?_)
    | ((with_reducible refine Test.dt ?_ ?_); omega)
    | ((with_reducible refine Test.df ?_ ?_); omega)
    | (with_reducible refine Test.d (fun h => ?_) (fun h => ?_))
    | ((with_reducible refine Test.ieT ?_ ?_); omega)
    | ((with_reducible refine Test.ieF ?_ ?_); omega)
    | ((with_reducible refine Test.neT ?_ ?_); omega)
    | ((with_reducible refine Test.neF ?_ ?_); omega)
    | (with_reducible refine Test.ie (fun h => ?_) (fun h => ?_))
    | (with_reducible refine Test.ne (fun h => ?_) (fun h => ?_))
    | ((with_reducible refine Test.b ?_ ?_); (focus first | assumption | (simp [negB]; done) | exact rfl))
    | ((with_reducible refine Test.nb ?_ ?_); (focus first | assumption | (simp [negB]; done) | exact rfl))
    | (with_reducible refine Test.notS (fun h => ?_) (fun h => ?_))
    | (with_reducible refine Test.mk (fun h => ?_) (fun h => ?_))
    | ((with_reducible refine Arith.tdiv ?_ ?_); omega)
    | (with_reducible refine Arith.bv8 ?_)
    | (with_reducible refine Arith.bv16 ?_)
    | (with_reducible refine Arith.bv32 ?_)
    | (with_reducible refine Arith.bv64 ?_)
    | ((with_reducible refine Arith.i64 ?_ ?_); omega)
    | ((with_reducible refine Arith.u64 ?_ ?_); omega)
    | ((with_reducible refine Arith.u32 ?_ ?_); omega)
    | ((with_reducible refine Arith.u16 ?_ ?_); omega)
    | ((with_reducible refine Arith.u8 ?_ ?_); omega)
    | ((with_reducible refine Arith.i32 ?_ ?_); omega)
    | ((with_reducible refine Arith.i64 ?_ ?_); simp (discharger := omega) only [Int.tdiv_eq_ediv_of_nonneg, shr_u8_4, shl_u8_4, shr_u16_4, shl_u16_4, shr_u16_8, shl_u16_8, shr_u32_4, shl_u32_4, shr_u32_8, shl_u32_8, shr_u32_16, shl_u32_16, shr_u32_24, shl_u32_24, shr_u64_4, shl_u64_4, shr_u64_8, shl_u64_8, shr_u64_16, shl_u64_16, shr_u64_24, shl_u64_24, shr_u64_40, shl_u64_40, shr_i64_4, shl_i64_4, shr_i64_8, shl_i64_8, shr_i64_16, shl_i64_16, shr_i64_24, shl_i64_24, shr_i64_40, shl_i64_40]; omega)
    | ((with_reducible refine Arith.u64 ?_ ?_); simp (discharger := omega) only [Int.tdiv_eq_ediv_of_nonneg, shr_u8_4, shl_u8_4, shr_u16_4, shl_u16_4, shr_u16_8, shl_u16_8, shr_u32_4, shl_u32_4, shr_u32_8, shl_u32_8, shr_u32_16, shl_u32_16, shr_u32_24, shl_u32_24, shr_u64_4, shl_u64_4, shr_u64_8, shl_u64_8, shr_u64_16, shl_u64_16, shr_u64_24, shl_u64_24, shr_u64_40, shl_u64_40, shr_i64_4, shl_i64_4, shr_i64_8, shl_i64_8, shr_i64_16, shl_i64_16, shr_i64_24, shl_i64_24, shr_i64_40, shl_i64_40]; omega)
    | ((with_reducible refine Arith.u32 ?_ ?_); simp (discharger := omega) only [Int.tdiv_eq_ediv_of_nonneg, shr_u8_4, shl_u8_4, shr_u16_4, shl_u16_4, shr_u16_8, shl_u16_8, shr_u32_4, shl_u32_4, shr_u32_8, shl_u32_8, shr_u32_16, shl_u32_16, shr_u32_24, shl_u32_24, shr_u64_4, shl_u64_4, shr_u64_8, shl_u64_8, shr_u64_16, shl_u64_16, shr_u64_24, shl_u64_24, shr_u64_40, shl_u64_40, shr_i64_4, shl_i64_4, shr_i64_8, shl_i64_8, shr_i64_16, shl_i64_16, shr_i64_24, shl_i64_24, shr_i64_40, shl_i64_40]; omega)
    | ((with_reducible refine Arith.u16 ?_ ?_); simp (discharger := omega) only [Int.tdiv_eq_ediv_of_nonneg, shr_u8_4, shl_u8_4, shr_u16_4, shl_u16_4, shr_u16_8, shl_u16_8, shr_u32_4, shl_u32_4, shr_u32_8, shl_u32_8, shr_u32_16, shl_u32_16, shr_u32_24, shl_u32_24, shr_u64_4, shl_u64_4, shr_u64_8, shl_u64_8, shr_u64_16, shl_u64_16, shr_u64_24, shl_u64_24, shr_u64_40, shl_u64_40, shr_i64_4, shl_i64_4, shr_i64_8, shl_i64_8, shr_i64_16, shl_i64_16, shr_i64_24, shl_i64_24, shr_i64_40, shl_i64_40]; omega)
    | ((with_reducible refine Arith.u8 ?_ ?_); simp (discharger := omega) only [Int.tdiv_eq_ediv_of_nonneg, shr_u8_4, shl_u8_4, shr_u16_4, shl_u16_4, shr_u16_8, shl_u16_8, shr_u32_4, shl_u32_4, shr_u32_8, shl_u32_8, shr_u32_16, shl_u32_16, shr_u32_24, shl_u32_24, shr_u64_4, shl_u64_4, shr_u64_8, shl_u64_8, shr_u64_16, shl_u64_16, shr_u64_24, shl_u64_24, shr_u64_40, shl_u64_40, shr_i64_4, shl_i64_4, shr_i64_8, shl_i64_8, shr_i64_16, shl_i64_16, shr_i64_24, shl_i64_24, shr_i64_40, shl_i64_40]; omega)
    | (with_reducible refine Arith.mk ?_)
    | (with_reducible refine Ends.mk ?_))
      all_goals first | ((repeat (first | rw [if_pos (by omega)] at h1 | rw [if_neg (by omega)] at h1)); subst h1; exact ⟨rfl, rfl⟩)
    | cons x l =>
      rcases hsl with rfl | ⟨n, rfl⟩
      all_goals repeat' ((conv => whnf); first
    | ((with_reducible refine Look.mk ?_); refine ⟨_, rfl, ?_⟩)
    | ((with_reducible refine LookN.zeros ?_))
    | ((with_reducible refine LookN.bytes ?_ ?_); (simp; done))
    | ((with_reducible refine BytesW.bytes ?_))
    | ((with_reducible refine Look.byte ?_ ?_); omega)
    | ((with_reducible refine Look.setb ?_ ?_ ?_); exact bv8_bd _; omega)
    | ((with_reducible refine LookN.setb ?_ ?_ ?_); exact bv8_bd _; omega)
    | ((with_reducible refine LookN.mk ?_); refine ⟨_, rfl, ?_⟩)
    | ((with_reducible refine Need.mk ?_ ?_); first | ((with_reducible refine needB ?_); kernel_rfl) | with_reducible rfl | omega | (with_reducible refine ⟨rfl, ?_⟩; focus omega) | (simp only [ByteArray.size_append, size_lit, List.size_toArray, List.length_cons, List.length_nil, Sp.ofB_size, ByteArray.size_extract]; omega) | exact rfl | trivial | exact Nat.le_of_ble_eq_true rfl | (exact ⟨rfl, by omega⟩) | (intro h; first | rfl | cases h) | (simp only [lenS_text, lenS_setN, lenS_zeros]; omega))
    | ((with_reducible refine BytesW.mk ?_); refine ⟨_, rfl, ?_⟩)
    | (with_reducible refine need_app rfl rfl (by rw [lenS_optSV, List.length_cons]; omega) (by rw [List.length_cons] at h3; omega) ?_)
    | (refine hX f (Nat.lt_succ_self f) _ _ ⟨_, (x :: l) ++ [(1, ⟨#[]⟩)], (by rw [optV_snoc]; first | exact .inl rfl | exact .inr ⟨_, rfl⟩), (by rw [optM_snoc, ← optSV_snoc]; try rfl), (by (repeat (first | rw [if_pos (by omega)] at h1 | rw [if_neg (by omega)] at h1)); exact h1), (by omega), (by omega), (by omega), (by rw [List.length_append]; simp only [List.length_cons, List.length_nil] at h3 ⊢; omega)⟩)
    | (refine hX f (Nat.lt_succ_self f) _ _ ⟨_, (x :: l) ++ [(bAt s a.toNat, s.extract (a + 2).toNat (a + bAt s (a + 1).toNat).toNat)], (by rw [optV_snoc]; first | exact .inl rfl | exact .inr ⟨_, rfl⟩), (by rw [optM_snoc, ← optSV_snoc]; try rfl), (by (repeat (first | rw [if_pos (by omega)] at h1 | rw [if_neg (by omega)] at h1)); exact h1), (by omega), (by omega), (by omega), (by rw [List.length_append]; simp only [List.length_cons, List.length_nil] at h3 ⊢; omega)⟩)
    | ((with_reducible refine Test.tmodEqT ?_ ?_ ?_); omega; focus first | omega | assumption)
    | ((with_reducible refine Test.tmodEqF ?_ ?_ ?_); omega; focus first | omega | assumption)
    | ((with_reducible refine Test.tmodNeT ?_ ?_ ?_); omega; focus first | omega | assumption)
    | ((with_reducible refine Test.tmodNeF ?_ ?_ ?_); omega; focus first | omega | assumption)
    | ((with_reducible refine Test.tmodEq ?_ (fun h => ?_) (fun h => ?_)); omega)
    | ((with_reducible refine Test.tmodNe ?_ (fun h => ?_) (fun h => ?_)); omega)
    | ((with_reducible refine Test.notT ?_ ?_); focus assumption)
    | ((with_reducible refine Test.notF ?_ ?_); focus assumption)
    | (with_reducible refine Test.notIe (fun h => ?_) (fun h => ?_))
    | (with_reducible refine Test.notD (fun h => ?_) (fun h => ?_))
    | ((with_reducible refine Test.empty (fun h => ?_) (fun h => ?_)))
    | (with_reducible refine Test.tt ?_)
    | (with_reducible refine Test.ff ?_)
    | ((with_reducible refine Test.dt ?_ ?_); omega)
    | ((with_reducible refine Test.df ?_ ?_); omega)
    | (with_reducible refine Test.d (fun h => ?_) (fun h => ?_))
    | ((with_reducible refine Test.ieT ?_ ?_); omega)
    | ((with_reducible refine Test.ieF ?_ ?_); omega)
    | ((with_reducible refine Test.neT ?_ ?_); omega)
    | ((with_reducible refine Test.neF ?_ ?_); omega)
    | (with_reducible refine Test.ie (fun h => ?_) (fun h => ?_))
    | (with_reducible refine Test.ne (fun h => ?_) (fun h => ?_))
    | ((with_reducible refine Test.b ?_ ?_); (focus first | assumption | (simp [negB]; done) | exact rfl))
    | ((with_reducible refine Test.nb ?_ ?_); (focus first | assumption | (simp [negB]; done) | exact rfl))
    | (with_reducible refine Test.notS (fun h => ?_) (fun h => ?_))
    | (with_reducible refine Test.mk (fun h => ?_) (fun h => ?_))
    | ((with_reducible refine Arith.tdiv ?_ ?_); omega)
    | (with_reducible refine Arith.bv8 ?_)
    | (with_reducible refine Arith.bv16 ?_)
    | (with_reducible refine Arith.bv32 ?_)
    | (with_reducible refine Arith.bv64 ?_)
    | ((with_reducible refine Arith.i64 ?_ ?_); omega)
    | ((with_reducible refine Arith.u64 ?_ ?_); omega)
    | ((with_reducible refine Arith.u32 ?_ ?_); omega)
    | ((with_reducible refine Arith.u16 ?_ ?_); omega)
    | ((with_reducible refine Arith.u8 ?_ ?_); omega)
    | ((with_reducible refine Arith.i32 ?_ ?_); omega)
    | ((with_reducible refine Arith.i64 ?_ ?_); simp (discharger := omega) only [Int.tdiv_eq_ediv_of_nonneg, shr_u8_4, shl_u8_4, shr_u16_4, shl_u16_4, shr_u16_8, shl_u16_8, shr_u32_4, shl_u32_4, shr_u32_8, shl_u32_8, shr_u32_16, shl_u32_16, shr_u32_24, shl_u32_24, shr_u64_4, shl_u64_4, shr_u64_8, shl_u64_8, shr_u64_16, shl_u64_16, shr_u64_24, shl_u64_24, shr_u64_40, shl_u64_40, shr_i64_4, shl_i64_4, shr_i64_8, shl_i64_8, shr_i64_16, shl_i64_16, shr_i64_24, shl_i64_24, shr_i64_40, shl_i64_40]; omega)
    | ((with_reducible refine Arith.u64 ?_ ?_); simp (discharger := omega) only [Int.tdiv_eq_ediv_of_nonneg, shr_u8_4, shl_u8_4, shr_u16_4, shl_u16_4, shr_u16_8, shl_u16_8, shr_u32_4, shl_u32_4, shr_u32_8, shl_u32_8, shr_u32_16, shl_u32_16, shr_u32_24, shl_u32_24, shr_u64_4, shl_u64_4, shr_u64_8, shl_u64_8, shr_u64_16, shl_u64_16, shr_u64_24, shl_u64_24, shr_u64_40, shl_u64_40, shr_i64_4, shl_i64_4, shr_i64_8, shl_i64_8, shr_i64_16, shl_i64_16, shr_i64_24, shl_i64_24, shr_i64_40, shl_i64_40]; omega)
    | ((with_reducible refine Arith.u32 ?_ ?_); simp (discharger := omega) only [Int.tdiv_eq_ediv_of_nonneg, shr_u8_4, shl_u8_4, shr_u16_4, shl_u16_4, shr_u16_8, shl_u16_8, shr_u32_4, shl_u32_4, shr_u32_8, shl_u32_8, shr_u32_16, shl_u32_16, shr_u32_24, shl_u32_24, shr_u64_4, shl_u64_4, shr_u64_8, shl_u64_8, shr_u64_16, shl_u64_16, shr_u64_24, shl_u64_24, shr_u64_40, shl_u64_40, shr_i64_4, shl_i64_4, shr_i64_8, shl_i64_8, shr_i64_16, shl_i64_16, shr_i64_24, shl_i64_24, shr_i64_40, shl_i64_40]; omega)
    | ((with_reducible refine Arith.u16 ?_ ?_); simp (discharger := omega) only [Int.tdiv_eq_ediv_of_nonneg, shr_u8_4, shl_u8_4, shr_u16_4, shl_u16_4, shr_u16_8, shl_u16_8, shr_u32_4, shl_u32_4, shr_u32_8, shl_u32_8, shr_u32_16, shl_u32_16, shr_u32_24, shl_u32_24, shr_u64_4, shl_u64_4, shr_u64_8, shl_u64_8, shr_u64_16, shl_u64_16, shr_u64_24, shl_u64_24, shr_u64_40, shl_u64_40, shr_i64_4, shl_i64_4, shr_i64_8, shl_i64_8, shr_i64_16, shl_i64_16, shr_i64_24, shl_i64_24, shr_i64_40, shl_i64_40]; omega)
    | ((with_reducible refine Arith.u8 ?_ ?_); simp (discharger := omega) only [Int.tdiv_eq_ediv_of_nonneg, shr_u8_4, shl_u8_4, shr_u16_4, shl_u16_4, shr_u16_8, shl_u16_8, shr_u32_4, shl_u32_4, shr_u32_8, shl_u32_8, shr_u32_16, shl_u32_16, shr_u32_24, shl_u32_24, shr_u64_4, shl_u64_4, shr_u64_8, shl_u64_8, shr_u64_16, shl_u64_16, shr_u64_24, shl_u64_24, shr_u64_40, shl_u64_40, shr_i64_4, shl_i64_4, shr_i64_8, shl_i64_8, shr_i64_16, shl_i64_16, shr_i64_24, shl_i64_24, shr_i64_40, shl_i64_40]; omega)
    | (with_reducible refine Arith.mk ?_)
    | (with_reducible refine Ends.mk ?_))
      all_goals first | ((repeat (first | rw [if_pos (by omega)] at h1 | rw [if_neg (by omega)] at h1)); subst h1; exact ⟨rfl, rfl⟩)
end G2
end Go.Proofs.Ytnmeeafnobfobaa.VM
