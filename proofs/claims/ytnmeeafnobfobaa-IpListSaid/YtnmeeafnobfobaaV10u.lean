/- law 10 by the evaluator: the law IpList. -/
import Derived.Test.YtnmeeafnobfobaaV10r
import Derived.Test.YtnmeeafnobfobaaP10p
import Derived.Test.YtnmeeafnobfobaaV10t
namespace Go.Proofs.Ytnmeeafnobfobaa.VM
namespace G2
open Go.RowKit
set_option linter.unusedVariables false
set_option linter.unusedSimpArgs false
set_option maxRecDepth 100000
def vf_law10_IpList : VFn := ⟨(.seq (.reg [
    ⟨(some 4), .mv (.c (.p (.o (.bool false)))), none, 0⟩] 0 none) (.seq (.seq (.reg [
    ⟨(some 15), .mv (.t 0), none, 0⟩,
    ⟨(some 16), .call 36 [(.t 15)] 0, none, 0⟩,
    ⟨(some 17), .mv (.t 16), none, 0⟩,
    ⟨(some 18), .mv (.t 1), (some (17, false)), 0⟩,
    ⟨(some 19), .len false (.t 18), (some (17, false)), 0⟩,
    ⟨(some 20), .bin .gtr (.t 19) (.c (.p (.o (.int .i64 4096)))), (some (17, false)), 0⟩,
    ⟨(some 21), .pick (.t 17) (.c (.p (.o (.bool true)))) (.t 20), none, 0⟩] 0 none) (.cond (.t 21) (.seq (.reg [
    ⟨(some 22), .call 27 [] 0, none, 0⟩,
    ⟨(some 4), .mv (.t 22), none, 0⟩] 0 none) .ret) .skip)) (.seq (.reg [
    ⟨(some 24), .mv (.t 0), none, 0⟩,
    ⟨(some 25), .call 37 [(.t 24)] 0, none, 0⟩,
    ⟨(some 23), .mv (.t 25), none, 0⟩,
    ⟨(some 26), .ext 0 (.t 23), none, 0⟩,
    ⟨(some 27), .ext 1 (.t 23), none, 0⟩,
    ⟨(some 5), .mv (.t 26), none, 0⟩,
    ⟨(some 6), .mv (.t 27), none, 0⟩] 0 none) (.seq (.seq (.reg [
    ⟨(some 28), .mv (.t 6), none, 0⟩,
    ⟨(some 29), .bin .eql (.t 28) (.c (.p (.o (.int .i64 0)))), none, 0⟩] 0 none) (.cond (.t 29) (.seq (.reg [
    ⟨(some 31), .mv (.t 5), none, 0⟩,
    ⟨(some 32), .call 39 [(.t 31)] 1, none, 0⟩,
    ⟨(some 30), .mv (.t 32), none, 1⟩,
    ⟨(some 33), .ext 0 (.t 30), none, 1⟩,
    ⟨(some 34), .ext 1 (.t 30), none, 1⟩,
    ⟨(some 7), .mv (.t 33), none, 1⟩,
    ⟨(some 8), .mv (.t 34), none, 1⟩] 1 none) (.seq (.reg [
    ⟨(some 35), .mv (.t 8), none, 0⟩,
    ⟨(some 36), .bin .neq (.t 35) (.c (.p (.o (.int .i64 0)))), none, 0⟩,
    ⟨(some 37), .mv (.t 36), none, 0⟩,
    ⟨(some 38), .mv (.t 0), (some (37, false)), 0⟩,
    ⟨(some 39), .mv (.t 7), (some (37, false)), 0⟩,
    ⟨(some 40), .call 41 [(.t 38), (.t 39)] 0, (some (37, false)), 0⟩,
    ⟨(some 41), .un .not (.t 40), (some (37, false)), 0⟩,
    ⟨(some 42), .pick (.t 37) (.c (.p (.o (.bool true)))) (.t 41), none, 0⟩,
    ⟨(some 43), .mv (.t 42), none, 0⟩,
    ⟨(some 44), .mv (.t 5), (some (43, false)), 0⟩,
    ⟨(some 45), .len false (.t 44), (some (43, false)), 0⟩,
    ⟨(some 46), .bin .rem (.t 45) (.c (.p (.o (.int .i64 4)))), (some (43, false)), 0⟩,
    ⟨(some 47), .bin .neq (.t 46) (.c (.p (.o (.int .i64 0)))), (some (43, false)), 0⟩,
    ⟨(some 48), .pick (.t 43) (.c (.p (.o (.bool true)))) (.t 47), none, 0⟩,
    ⟨(some 49), .mv (.t 48), none, 0⟩,
    ⟨(some 50), .mv (.t 5), (some (49, false)), 0⟩,
    ⟨(some 51), .len false (.t 50), (some (49, false)), 0⟩,
    ⟨(some 52), .bin .gtr (.t 51) (.c (.p (.o (.int .i64 40)))), (some (49, false)), 0⟩,
    ⟨(some 53), .pick (.t 49) (.c (.p (.o (.bool true)))) (.t 52), none, 0⟩] 0 none) (.cond (.t 53) (.seq (.reg [
    ⟨(some 4), .mv (.c (.p (.o (.bool false)))), none, 0⟩] 0 none) .ret) .skip))) .skip)) (.seq (.reg [
    ⟨(some 55), .mv (.t 1), none, 0⟩,
    ⟨(some 56), .call 39 [(.t 55)] 1, none, 0⟩,
    ⟨(some 54), .mv (.t 56), none, 1⟩,
    ⟨(some 57), .ext 0 (.t 54), none, 1⟩,
    ⟨(some 58), .ext 1 (.t 54), none, 1⟩,
    ⟨(some 9), .mv (.t 57), none, 1⟩,
    ⟨(some 10), .mv (.t 58), none, 1⟩] 1 none) (.seq (.seq (.reg [
    ⟨(some 59), .mv (.t 10), none, 0⟩,
    ⟨(some 60), .bin .neq (.t 59) (.c (.p (.o (.int .i64 0)))), none, 0⟩] 0 none) (.cond (.t 60) (.seq (.reg [
    ⟨(some 61), .mv (.t 10), none, 0⟩,
    ⟨(some 62), .bin .eql (.t 61) (.c (.p (.o (.int .i64 4)))), none, 0⟩,
    ⟨(some 63), .mv (.t 1), none, 0⟩,
    ⟨(some 64), .len false (.t 63), none, 0⟩,
    ⟨(some 65), .bin .gtr (.t 64) (.c (.p (.o (.int .i64 40)))), none, 0⟩,
    ⟨(some 66), .eq .bool false (.t 62) (.t 65), none, 0⟩,
    ⟨(some 67), .mv (.t 66), none, 0⟩,
    ⟨(some 68), .call 27 [] 0, (some (67, true)), 0⟩,
    ⟨(some 69), .pick (.t 67) (.t 68) (.c (.p (.o (.bool false)))), none, 0⟩,
    ⟨(some 4), .mv (.t 69), none, 0⟩] 0 none) .ret) .skip)) (.seq (.reg [
    ⟨(some 71), .mv (.t 9), none, 0⟩,
    ⟨(some 72), .call 37 [(.t 71)] 0, none, 0⟩,
    ⟨(some 70), .mv (.t 72), none, 0⟩,
    ⟨(some 73), .ext 0 (.t 70), none, 0⟩,
    ⟨(some 74), .ext 1 (.t 70), none, 0⟩,
    ⟨(some 11), .mv (.t 73), none, 0⟩,
    ⟨(some 12), .mv (.t 74), none, 0⟩] 0 none) (.seq (.reg [
    ⟨(some 76), .mv (.t 11), none, 0⟩,
    ⟨(some 77), .call 39 [(.t 76)] 1, none, 0⟩,
    ⟨(some 75), .mv (.t 77), none, 1⟩,
    ⟨(some 78), .ext 0 (.t 75), none, 1⟩,
    ⟨(some 79), .ext 1 (.t 75), none, 1⟩,
    ⟨(some 13), .mv (.t 78), none, 1⟩,
    ⟨(some 14), .mv (.t 79), none, 1⟩] 1 none) (.seq (.reg [
    ⟨(some 80), .mv (.t 12), none, 0⟩,
    ⟨(some 81), .bin .eql (.t 80) (.c (.p (.o (.int .i64 0)))), none, 0⟩,
    ⟨(some 82), .mv (.t 81), none, 0⟩,
    ⟨(some 83), .mv (.t 14), (some (82, true)), 0⟩,
    ⟨(some 84), .bin .eql (.t 83) (.c (.p (.o (.int .i64 0)))), (some (82, true)), 0⟩,
    ⟨(some 85), .pick (.t 82) (.t 84) (.c (.p (.o (.bool false)))), none, 0⟩,
    ⟨(some 86), .mv (.t 85), none, 0⟩,
    ⟨(some 87), .mv (.t 9), (some (86, true)), 0⟩,
    ⟨(some 88), .mv (.t 13), (some (86, true)), 0⟩,
    ⟨(some 89), .call 41 [(.t 87), (.t 88)] 0, (some (86, true)), 0⟩,
    ⟨(some 90), .pick (.t 86) (.t 89) (.c (.p (.o (.bool false)))), none, 0⟩,
    ⟨(some 91), .mv (.t 90), none, 0⟩,
    ⟨(some 92), .mv (.t 11), (some (91, true)), 0⟩,
    ⟨(some 93), .len false (.t 92), (some (91, true)), 0⟩,
    ⟨(some 94), .mv (.t 1), (some (91, true)), 0⟩,
    ⟨(some 95), .len false (.t 94), (some (91, true)), 0⟩,
    ⟨(some 96), .bin .add (.t 95) (.c (.p (.o (.int .i64 3)))), (some (91, true)), 0⟩,
    ⟨(some 97), .bin .quo (.t 96) (.c (.p (.o (.int .i64 4)))), (some (91, true)), 0⟩,
    ⟨(some 98), .bin .mul (.t 97) (.c (.p (.o (.int .i64 4)))), (some (91, true)), 0⟩,
    ⟨(some 99), .bin .leq (.t 93) (.t 98), (some (91, true)), 0⟩,
    ⟨(some 100), .pick (.t 91) (.t 99) (.c (.p (.o (.bool false)))), none, 0⟩,
    ⟨(some 101), .mv (.t 100), none, 0⟩,
    ⟨(some 102), .call 27 [] 0, (some (101, true)), 0⟩,
    ⟨(some 103), .pick (.t 101) (.t 102) (.c (.p (.o (.bool false)))), none, 0⟩,
    ⟨(some 4), .mv (.t 103), none, 0⟩] 0 none) .ret))))))))),
  [.tmp 4], 104, [0, 1, 4, 5, 6, 7, 8, 9, 10, 11, 12, 13, 14]⟩
theorem ok_law10_IpList : cFn Try.prog eqsT newsT vf_law10_IpList.keep Try.f13 = some vf_law10_IpList := by kernel_rfl
theorem same_en (b : Bool) (c1 : Cap) : Det Try.prog 41 [.o (.slc 0 0 0 c1), .o .nils] [.row b true []] (vB true) [.row b true []] := by
  refine can_of_W known mix Try.func41 (by kernel_rfl) ok_ref10_SameOpts (Nat.le_of_ble_eq_true rfl) ?_
  repeat' ((conv => whnf); first
    | ((with_reducible refine Look.mk ?_); refine ⟨_, rfl, ?_⟩)
    | ((with_reducible refine LookN.zeros ?_))
    | ((with_reducible refine LookN.bytes ?_ ?_); (simp; done))
    | ((with_reducible refine BytesW.bytes ?_))
    | ((with_reducible refine Look.byte ?_ ?_); omega)
    | ((with_reducible refine Look.setb ?_ ?_ ?_); exact bv8_bd _; omega)
    | ((with_reducible refine LookN.setb ?_ ?_ ?_); exact bv8_bd _; omega)
    | ((with_reducible refine LookN.mk ?_); refine ⟨_, rfl, ?_⟩)
    | ((with_reducible refine Need.mk ?_ ?_); first | ((with_reducible refine needB ?_); kernel_rfl) | with_reducible rfl | omega | (with_reducible refine ⟨rfl, ?_⟩; focus omega) | (simp only [ByteArray.size_append, size_lit, List.size_toArray, List.length_cons, List.length_nil, Sp.ofB_size, ByteArray.size_extract]; omega) | exact rfl | trivial | exact Nat.le_of_ble_eq_true rfl | (exact ⟨rfl, by omega⟩) | (intro h; first | rfl | cases h) | (simp only [lenS_text, lenS_setN, lenS_zeros]; omega))
    | ((with_reducible refine BytesW.mk ?_); refine ⟨_, rfl, ?_⟩)
    | ((with_reducible refine Test.tmodEqT ?_ ?_ ?_); omega; focus first | omega | assumption)
    | ((with_reducible refine Test.tmodEqF ?_ ?_ ?_); omega; focus first | omega | assumption)
    | ((with_reducible refine Test.tmodNeT ?_ ?_ ?_); omega; focus first | omega | assumption)
    | ((with_reducible refine Test.tmodNeF ?_ ?_ ?_); omega; focus first | omega | assumption)
    | ((with_reducible refine Test.tmodEq ?_ (fun h => ?_) (fun h => ?_)); omega)
    | ((with_reducible refine Test.tmodNe ?_ (fun h => ?_) (fun h => ?_)); omega)
    | ((with_reducible refine Test.notT ?_ ?_); focus assumption)
    | ((with_reducible refine Test.notF ?_ ?_); focus assumption)
    | (with_reducible refine Test.notIe (fun h => ?_) (fun h => ?_))
    | (with_reducible refine Test.notD (fun h => ?_) (fun h => ?_))
    | ((with_reducible refine Test.empty (fun h => ?_) (fun h => ?_)))
    | (with_reducible refine Test.tt ?_)
    | (with_reducible refine Test.ff ?_)
    | ((with_reducible refine Test.dt ?_ ?_); omega)
    | ((with_reducible refine Test.df ?_ ?_); omega)
    | (with_reducible refine Test.d (fun h => ?_) (fun h => ?_))
    | ((with_reducible refine Test.ieT ?_ ?_); omega)
    | ((with_reducible refine Test.ieF ?_ ?_); omega)
    | ((with_reducible refine Test.neT ?_ ?_); omega)
    | ((with_reducible refine Test.neF ?_ ?_); omega)
    | (with_reducible refine Test.ie (fun h => ?_) (fun h => ?_))
    | (with_reducible refine Test.ne (fun h => ?_) (fun h => ?_))
    | ((with_reducible refine Test.b ?_ ?_); (focus first | assumption | (simp [negB]; done) | exact rfl))
    | ((with_reducible refine Test.nb ?_ ?_); (focus first | assumption | (simp [negB]; done) | exact rfl))
    | (with_reducible refine Test.notS (fun h => ?_) (fun h => ?_))
    | (with_reducible refine Test.mk (fun h => ?_) (fun h => ?_))
    | ((with_reducible refine Arith.tdiv ?_ ?_); omega)
    | (with_reducible refine Arith.bv8 ?_)
    | (with_reducible refine Arith.bv16 ?_)
    | (with_reducible refine Arith.bv32 ?_)
    | (with_reducible refine Arith.bv64 ?_)
    | ((with_reducible refine Arith.i64 ?_ ?_); omega)
    | ((with_reducible refine Arith.u64 ?_ ?_); omega)
    | ((with_reducible refine Arith.u32 ?_ ?_); omega)
    | ((with_reducible refine Arith.u16 ?_ ?_); omega)
    | ((with_reducible refine Arith.u8 ?_ ?_); omega)
    | ((with_reducible refine Arith.i32 ?_ ?_); omega)
    | (with_reducible refine Arith.mk ?_)
    | (with_reducible refine Ends.mk ?_))
  all_goals first
    | (refine LoopW.unroll (fun X hX => ?_))
    | exact ⟨rfl, rfl⟩
  all_goals repeat' ((conv => whnf); first
    | ((with_reducible refine Look.mk ?_); refine ⟨_, rfl, ?_⟩)
    | ((with_reducible refine LookN.zeros ?_))
    | ((with_reducible refine LookN.bytes ?_ ?_); (simp; done))
    | ((with_reducible refine BytesW.bytes ?_))
    | ((with_reducible refine Look.byte ?_ ?_); omega)
    | ((with_reducible refine Look.setb ?_ ?_ ?_); exact bv8_bd _; omega)
    | ((with_reducible refine LookN.setb ?_ ?_ ?_); exact bv8_bd _; omega)
    | ((with_reducible refine LookN.mk ?_); refine ⟨_, rfl, ?_⟩)
    | ((with_reducible refine Need.mk ?_ ?_); first | ((with_reducible refine needB ?_); kernel_rfl) | with_reducible rfl | omega | (with_reducible refine ⟨rfl, ?_⟩; focus omega) | (simp only [ByteArray.size_append, size_lit, List.size_toArray, List.length_cons, List.length_nil, Sp.ofB_size, ByteArray.size_extract]; omega) | exact rfl | trivial | exact Nat.le_of_ble_eq_true rfl | (exact ⟨rfl, by omega⟩) | (intro h; first | rfl | cases h) | (simp only [lenS_text, lenS_setN, lenS_zeros]; omega))
    | ((with_reducible refine BytesW.mk ?_); refine ⟨_, rfl, ?_⟩)
    | ((with_reducible refine Test.tmodEqT ?_ ?_ ?_); omega; focus first | omega | assumption)
    | ((with_reducible refine Test.tmodEqF ?_ ?_ ?_); omega; focus first | omega | assumption)
    | ((with_reducible refine Test.tmodNeT ?_ ?_ ?_); omega; focus first | omega | assumption)
    | ((with_reducible refine Test.tmodNeF ?_ ?_ ?_); omega; focus first | omega | assumption)
    | ((with_reducible refine Test.tmodEq ?_ (fun h => ?_) (fun h => ?_)); omega)
    | ((with_reducible refine Test.tmodNe ?_ (fun h => ?_) (fun h => ?_)); omega)
    | ((with_reducible refine Test.notT ?_ ?_); focus assumption)
    | ((with_reducible refine Test.notF ?_ ?_); focus assumption)
    | (with_reducible refine Test.notIe (fun h => ?_) (fun h => ?_))
    | (with_reducible refine Test.notD (fun h => ?_) (fun h => ?_))
    | ((with_reducible refine Test.empty (fun h => ?_) (fun h => ?_)))
    | (with_reducible refine Test.tt ?_)
    | (with_reducible refine Test.ff ?_)
    | ((with_reducible refine Test.dt ?_ ?_); omega)
    | ((with_reducible refine Test.df ?_ ?_); omega)
    | (with_reducible refine Test.d (fun h => ?_) (fun h => ?_))
    | ((with_reducible refine Test.ieT ?_ ?_); omega)
    | ((with_reducible refine Test.ieF ?_ ?_); omega)
    | ((with_reducible refine Test.neT ?_ ?_); omega)
    | ((with_reducible refine Test.neF ?_ ?_); omega)
    | (with_reducible refine Test.ie (fun h => ?_) (fun h => ?_))
    | (with_reducible refine Test.ne (fun h => ?_) (fun h => ?_))
    | ((with_reducible refine Test.b ?_ ?_); (focus first | assumption | (simp [negB]; done) | exact rfl))
    | ((with_reducible refine Test.nb ?_ ?_); (focus first | assumption | (simp [negB]; done) | exact rfl))
    | (with_reducible refine Test.notS (fun h => ?_) (fun h => ?_))
    | (with_reducible refine Test.mk (fun h => ?_) (fun h => ?_))
    | ((with_reducible refine Arith.tdiv ?_ ?_); omega)
    | (with_reducible refine Arith.bv8 ?_)
    | (with_reducible refine Arith.bv16 ?_)
    | (with_reducible refine Arith.bv32 ?_)
    | (with_reducible refine Arith.bv64 ?_)
    | ((with_reducible refine Arith.i64 ?_ ?_); omega)
    | ((with_reducible refine Arith.u64 ?_ ?_); omega)
    | ((with_reducible refine Arith.u32 ?_ ?_); omega)
    | ((with_reducible refine Arith.u16 ?_ ?_); omega)
    | ((with_reducible refine Arith.u8 ?_ ?_); omega)
    | ((with_reducible refine Arith.i32 ?_ ?_); omega)
    | (with_reducible refine Arith.mk ?_)
    | (with_reducible refine Ends.mk ?_))
  all_goals first
    | exact ⟨rfl, rfl⟩
theorem read_nil : optP ((⟨#[]⟩ : ByteArray).size + 1) ⟨#[]⟩ [] = some [] := by decide +kernel
set_option maxHeartbeats 4000000 in
theorem iplist_nf (s : ByteArray) (hs : s.size ≤ 4096)  (h40 : 40 < s.size) (al : Det Try.prog 27 [] [] (vB true) []) : Det Try.prog 13 [.o .nils, .o (.str s)] [] (vB true) [] := by
  have M : Det Try.prog 36 [.o .nils] [] (vB false) [] := many_nil
  have OE : Det Try.prog 39 [.o (.str ⟨#[]⟩)] [] (.t [.o (.nils), .o (.int .i64 0)]) [] := options_can ⟨#[]⟩ (by decide) _ read_nil
  have S0 : Det Try.prog 41 [.o .nils, .o .nils] [] (vB true) [] := same_nn
  refine can_of_W known mix Try.func13 (by kernel_rfl) ok_law10_IpList (Nat.le_of_ble_eq_true rfl) ?_
  repeat' ((conv => whnf); first
    | ((with_reducible refine Look.mk ?_); refine ⟨_, rfl, ?_⟩)
    | ((with_reducible refine LookN.zeros ?_))
    | ((with_reducible refine LookN.bytes ?_ ?_); (simp; done))
    | ((with_reducible refine BytesW.bytes ?_))
    | ((with_reducible refine Look.byte ?_ ?_); omega)
    | ((with_reducible refine Look.setb ?_ ?_ ?_); exact bv8_bd _; omega)
    | ((with_reducible refine LookN.setb ?_ ?_ ?_); exact bv8_bd _; omega)
    | ((with_reducible refine LookN.mk ?_); refine ⟨_, rfl, ?_⟩)
    | ((with_reducible refine Need.mk ?_ ?_); first | ((with_reducible refine needB ?_); kernel_rfl) | with_reducible rfl | omega | (with_reducible refine ⟨rfl, ?_⟩; focus omega) | (simp only [ByteArray.size_append, size_lit, List.size_toArray, List.length_cons, List.length_nil, Sp.ofB_size, ByteArray.size_extract]; omega) | exact rfl | trivial | exact Nat.le_of_ble_eq_true rfl | (exact ⟨rfl, by omega⟩) | (intro h; first | rfl | cases h) | (simp only [lenS_text, lenS_setN, lenS_zeros]; omega))
    | ((with_reducible refine BytesW.mk ?_); refine ⟨_, rfl, ?_⟩)
    | (with_reducible refine CallW.det (M) ?_)
    | (with_reducible refine CallW.det (opts_nil) ?_)
    | (with_reducible refine CallW.det (OE) ?_)
    | (with_reducible refine CallW.det (S0) ?_)
    | (with_reducible refine CallW.det (options_far s h40 (by omega)) ?_)
    | (with_reducible refine CallW.det (al) ?_)
    | ((with_reducible refine Test.tmodEqT ?_ ?_ ?_); omega; focus first | omega | assumption)
    | ((with_reducible refine Test.tmodEqF ?_ ?_ ?_); omega; focus first | omega | assumption)
    | ((with_reducible refine Test.tmodNeT ?_ ?_ ?_); omega; focus first | omega | assumption)
    | ((with_reducible refine Test.tmodNeF ?_ ?_ ?_); omega; focus first | omega | assumption)
    | ((with_reducible refine Test.tmodEq ?_ (fun h => ?_) (fun h => ?_)); omega)
    | ((with_reducible refine Test.tmodNe ?_ (fun h => ?_) (fun h => ?_)); omega)
    | ((with_reducible refine Test.notT ?_ ?_); focus assumption)
    | ((with_reducible refine Test.notF ?_ ?_); focus assumption)
    | (with_reducible refine Test.notIe (fun h => ?_) (fun h => ?_))
    | (with_reducible refine Test.notD (fun h => ?_) (fun h => ?_))
    | ((with_reducible refine Test.empty (fun h => ?_) (fun h => ?_)))
    | (with_reducible refine Test.tt ?_)
    | (with_reducible refine Test.ff ?_)
    | ((with_reducible refine Test.dt ?_ ?_); omega)
    | ((with_reducible refine Test.df ?_ ?_); omega)
    | (with_reducible refine Test.d (fun h => ?_) (fun h => ?_))
    | ((with_reducible refine Test.ieT ?_ ?_); omega)
    | ((with_reducible refine Test.ieF ?_ ?_); omega)
    | ((with_reducible refine Test.neT ?_ ?_); omega)
    | ((with_reducible refine Test.neF ?_ ?_); omega)
    | (with_reducible refine Test.ie (fun h => ?_) (fun h => ?_))
    | (with_reducible refine Test.ne (fun h => ?_) (fun h => ?_))
    | ((with_reducible refine Test.b ?_ ?_); (focus first | assumption | (simp [negB]; done) | exact rfl))
    | ((with_reducible refine Test.nb ?_ ?_); (focus first | assumption | (simp [negB]; done) | exact rfl))
    | (with_reducible refine Test.notS (fun h => ?_) (fun h => ?_))
    | (with_reducible refine Test.mk (fun h => ?_) (fun h => ?_))
    | ((with_reducible refine Arith.tdiv ?_ ?_); omega)
    | (with_reducible refine Arith.bv8 ?_)
    | (with_reducible refine Arith.bv16 ?_)
    | (with_reducible refine Arith.bv32 ?_)
    | (with_reducible refine Arith.bv64 ?_)
    | ((with_reducible refine Arith.i64 ?_ ?_); omega)
    | ((with_reducible refine Arith.u64 ?_ ?_); omega)
    | ((with_reducible refine Arith.u32 ?_ ?_); omega)
    | ((with_reducible refine Arith.u16 ?_ ?_); omega)
    | ((with_reducible refine Arith.u8 ?_ ?_); omega)
    | ((with_reducible refine Arith.i32 ?_ ?_); omega)
    | (with_reducible refine Arith.mk ?_)
    | (with_reducible refine Ends.mk ?_))
  all_goals first | exact ⟨rfl, rfl⟩ | (exact absurd h (by decide)) | (exact absurd (by decide) h) | (exfalso; rw [decide_eq_true (by omega)] at h; exact absurd h (by decide)) | (exfalso; rw [decide_eq_false (by omega)] at h; exact absurd h (by decide)) | (exfalso; have e0 : (⟨#[]⟩ : ByteArray).size = 0 := rfl; omega)
set_option maxHeartbeats 4000000 in
theorem iplist_nx (s : ByteArray) (hs : s.size ≤ 4096)  (h40 : s.size ≤ 40) (h1 : optP (s.size + 1) s [] = none) (al : Det Try.prog 27 [] [] (vB true) []) : Det Try.prog 13 [.o .nils, .o (.str s)] [] (vB true) [] := by
  have M : Det Try.prog 36 [.o .nils] [] (vB false) [] := many_nil
  have OE : Det Try.prog 39 [.o (.str ⟨#[]⟩)] [] (.t [.o (.nils), .o (.int .i64 0)]) [] := options_can ⟨#[]⟩ (by decide) _ read_nil
  have S0 : Det Try.prog 41 [.o .nils, .o .nils] [] (vB true) [] := same_nn
  have OX : Det Try.prog 39 [.o (.str s)] [] (.t [.o .nils, .o (.int .i64 102)]) [] := options_can s h40 _ h1
  refine can_of_W known mix Try.func13 (by kernel_rfl) ok_law10_IpList (Nat.le_of_ble_eq_true rfl) ?_
  repeat' ((conv => whnf); first
    | ((with_reducible refine Look.mk ?_); refine ⟨_, rfl, ?_⟩)
    | ((with_reducible refine LookN.zeros ?_))
    | ((with_reducible refine LookN.bytes ?_ ?_); (simp; done))
    | ((with_reducible refine BytesW.bytes ?_))
    | ((with_reducible refine Look.byte ?_ ?_); omega)
    | ((with_reducible refine Look.setb ?_ ?_ ?_); exact bv8_bd _; omega)
    | ((with_reducible refine LookN.setb ?_ ?_ ?_); exact bv8_bd _; omega)
    | ((with_reducible refine LookN.mk ?_); refine ⟨_, rfl, ?_⟩)
    | ((with_reducible refine Need.mk ?_ ?_); first | ((with_reducible refine needB ?_); kernel_rfl) | with_reducible rfl | omega | (with_reducible refine ⟨rfl, ?_⟩; focus omega) | (simp only [ByteArray.size_append, size_lit, List.size_toArray, List.length_cons, List.length_nil, Sp.ofB_size, ByteArray.size_extract]; omega) | exact rfl | trivial | exact Nat.le_of_ble_eq_true rfl | (exact ⟨rfl, by omega⟩) | (intro h; first | rfl | cases h) | (simp only [lenS_text, lenS_setN, lenS_zeros]; omega))
    | ((with_reducible refine BytesW.mk ?_); refine ⟨_, rfl, ?_⟩)
    | (with_reducible refine CallW.det (M) ?_)
    | (with_reducible refine CallW.det (opts_nil) ?_)
    | (with_reducible refine CallW.det (OE) ?_)
    | (with_reducible refine CallW.det (S0) ?_)
    | (with_reducible refine CallW.det (OX) ?_)
    | (with_reducible refine CallW.det (al) ?_)
    | ((with_reducible refine Test.tmodEqT ?_ ?_ ?_); omega; focus first | omega | assumption)
    | ((with_reducible refine Test.tmodEqF ?_ ?_ ?_); omega; focus first | omega | assumption)
    | ((with_reducible refine Test.tmodNeT ?_ ?_ ?_); omega; focus first | omega | assumption)
    | ((with_reducible refine Test.tmodNeF ?_ ?_ ?_); omega; focus first | omega | assumption)
    | ((with_reducible refine Test.tmodEq ?_ (fun h => ?_) (fun h => ?_)); omega)
    | ((with_reducible refine Test.tmodNe ?_ (fun h => ?_) (fun h => ?_)); omega)
    | ((with_reducible refine Test.notT ?_ ?_); focus assumption)
    | ((with_reducible refine Test.notF ?_ ?_); focus assumption)
    | (with_reducible refine Test.notIe (fun h => ?_) (fun h => ?_))
    | (with_reducible refine Test.notD (fun h => ?_) (fun h => ?_))
    | ((with_reducible refine Test.empty (fun h => ?_) (fun h => ?_)))
    | (with_reducible refine Test.tt ?_)
    | (with_reducible refine Test.ff ?_)
    | ((with_reducible refine Test.dt ?_ ?_); omega)
    | ((with_reducible refine Test.df ?_ ?_); omega)
    | (with_reducible refine Test.d (fun h => ?_) (fun h => ?_))
    | ((with_reducible refine Test.ieT ?_ ?_); omega)
    | ((with_reducible refine Test.ieF ?_ ?_); omega)
    | ((with_reducible refine Test.neT ?_ ?_); omega)
    | ((with_reducible refine Test.neF ?_ ?_); omega)
    | (with_reducible refine Test.ie (fun h => ?_) (fun h => ?_))
    | (with_reducible refine Test.ne (fun h => ?_) (fun h => ?_))
    | ((with_reducible refine Test.b ?_ ?_); (focus first | assumption | (simp [negB]; done) | exact rfl))
    | ((with_reducible refine Test.nb ?_ ?_); (focus first | assumption | (simp [negB]; done) | exact rfl))
    | (with_reducible refine Test.notS (fun h => ?_) (fun h => ?_))
    | (with_reducible refine Test.mk (fun h => ?_) (fun h => ?_))
    | ((with_reducible refine Arith.tdiv ?_ ?_); omega)
    | (with_reducible refine Arith.bv8 ?_)
    | (with_reducible refine Arith.bv16 ?_)
    | (with_reducible refine Arith.bv32 ?_)
    | (with_reducible refine Arith.bv64 ?_)
    | ((with_reducible refine Arith.i64 ?_ ?_); omega)
    | ((with_reducible refine Arith.u64 ?_ ?_); omega)
    | ((with_reducible refine Arith.u32 ?_ ?_); omega)
    | ((with_reducible refine Arith.u16 ?_ ?_); omega)
    | ((with_reducible refine Arith.u8 ?_ ?_); omega)
    | ((with_reducible refine Arith.i32 ?_ ?_); omega)
    | (with_reducible refine Arith.mk ?_)
    | (with_reducible refine Ends.mk ?_))
  all_goals first | exact ⟨rfl, rfl⟩ | (exact absurd h (by decide)) | (exact absurd (by decide) h) | (exfalso; rw [decide_eq_true (by omega)] at h; exact absurd h (by decide)) | (exfalso; rw [decide_eq_false (by omega)] at h; exact absurd h (by decide)) | (exfalso; have e0 : (⟨#[]⟩ : ByteArray).size = 0 := rfl; omega)
set_option maxHeartbeats 4000000 in
theorem iplist_n0 (s : ByteArray) (hs : s.size ≤ 4096)  (h40 : s.size ≤ 40) (h1 : optP (s.size + 1) s [] = some []) (al : Det Try.prog 27 [] [] (vB true) []) : Det Try.prog 13 [.o .nils, .o (.str s)] [] (vB true) [] := by
  have M : Det Try.prog 36 [.o .nils] [] (vB false) [] := many_nil
  have OE : Det Try.prog 39 [.o (.str ⟨#[]⟩)] [] (.t [.o (.nils), .o (.int .i64 0)]) [] := options_can ⟨#[]⟩ (by decide) _ read_nil
  have S0 : Det Try.prog 41 [.o .nils, .o .nils] [] (vB true) [] := same_nn
  have O0 : Det Try.prog 39 [.o (.str s)] [] (.t [.o (.nils), .o (.int .i64 0)]) [] := options_can s h40 _ h1
  have OE2 : Det Try.prog 39 [.o (.str ⟨#[]⟩)] [] (.t [.o (.nils), .o (.int .i64 0)]) [] := options_can ⟨#[]⟩ (by decide) _ read_nil
  have S02 : Det Try.prog 41 [.o .nils, .o .nils] [] (vB true) [] := same_nn
  refine can_of_W known mix Try.func13 (by kernel_rfl) ok_law10_IpList (Nat.le_of_ble_eq_true rfl) ?_
  repeat' ((conv => whnf); first
    | ((with_reducible refine Look.mk ?_); refine ⟨_, rfl, ?_⟩)
    | ((with_reducible refine LookN.zeros ?_))
    | ((with_reducible refine LookN.bytes ?_ ?_); (simp; done))
    | ((with_reducible refine BytesW.bytes ?_))
    | ((with_reducible refine Look.byte ?_ ?_); omega)
    | ((with_reducible refine Look.setb ?_ ?_ ?_); exact bv8_bd _; omega)
    | ((with_reducible refine LookN.setb ?_ ?_ ?_); exact bv8_bd _; omega)
    | ((with_reducible refine LookN.mk ?_); refine ⟨_, rfl, ?_⟩)
    | ((with_reducible refine Need.mk ?_ ?_); first | ((with_reducible refine needB ?_); kernel_rfl) | with_reducible rfl | omega | (with_reducible refine ⟨rfl, ?_⟩; focus omega) | (simp only [ByteArray.size_append, size_lit, List.size_toArray, List.length_cons, List.length_nil, Sp.ofB_size, ByteArray.size_extract]; omega) | exact rfl | trivial | exact Nat.le_of_ble_eq_true rfl | (exact ⟨rfl, by omega⟩) | (intro h; first | rfl | cases h) | (simp only [lenS_text, lenS_setN, lenS_zeros]; omega))
    | ((with_reducible refine BytesW.mk ?_); refine ⟨_, rfl, ?_⟩)
    | (with_reducible refine CallW.det (M) ?_)
    | (with_reducible refine CallW.det (opts_nil) ?_)
    | (with_reducible refine CallW.det (OE) ?_)
    | (with_reducible refine CallW.det (S0) ?_)
    | (with_reducible refine CallW.det (O0) ?_)
    | (with_reducible refine CallW.det (opts_nil) ?_)
    | (with_reducible refine CallW.det (OE2) ?_)
    | (with_reducible refine CallW.det (S02) ?_)
    | (with_reducible refine CallW.det (al) ?_)
    | ((with_reducible refine Test.tmodEqT ?_ ?_ ?_); omega; focus first | omega | assumption)
    | ((with_reducible refine Test.tmodEqF ?_ ?_ ?_); omega; focus first | omega | assumption)
    | ((with_reducible refine Test.tmodNeT ?_ ?_ ?_); omega; focus first | omega | assumption)
    | ((with_reducible refine Test.tmodNeF ?_ ?_ ?_); omega; focus first | omega | assumption)
    | ((with_reducible refine Test.tmodEq ?_ (fun h => ?_) (fun h => ?_)); omega)
    | ((with_reducible refine Test.tmodNe ?_ (fun h => ?_) (fun h => ?_)); omega)
    | ((with_reducible refine Test.notT ?_ ?_); focus assumption)
    | ((with_reducible refine Test.notF ?_ ?_); focus assumption)
    | (with_reducible refine Test.notIe (fun h => ?_) (fun h => ?_))
    | (with_reducible refine Test.notD (fun h => ?_) (fun h => ?_))
    | ((with_reducible refine Test.empty (fun h => ?_) (fun h => ?_)))
    | (with_reducible refine Test.tt ?_)
    | (with_reducible refine Test.ff ?_)
    | ((with_reducible refine Test.dt ?_ ?_); omega)
    | ((with_reducible refine Test.df ?_ ?_); omega)
    | (with_reducible refine Test.d (fun h => ?_) (fun h => ?_))
    | ((with_reducible refine Test.ieT ?_ ?_); omega)
    | ((with_reducible refine Test.ieF ?_ ?_); omega)
    | ((with_reducible refine Test.neT ?_ ?_); omega)
    | ((with_reducible refine Test.neF ?_ ?_); omega)
    | (with_reducible refine Test.ie (fun h => ?_) (fun h => ?_))
    | (with_reducible refine Test.ne (fun h => ?_) (fun h => ?_))
    | ((with_reducible refine Test.b ?_ ?_); (focus first | assumption | (simp [negB]; done) | exact rfl))
    | ((with_reducible refine Test.nb ?_ ?_); (focus first | assumption | (simp [negB]; done) | exact rfl))
    | (with_reducible refine Test.notS (fun h => ?_) (fun h => ?_))
    | (with_reducible refine Test.mk (fun h => ?_) (fun h => ?_))
    | ((with_reducible refine Arith.tdiv ?_ ?_); omega)
    | (with_reducible refine Arith.bv8 ?_)
    | (with_reducible refine Arith.bv16 ?_)
    | (with_reducible refine Arith.bv32 ?_)
    | (with_reducible refine Arith.bv64 ?_)
    | ((with_reducible refine Arith.i64 ?_ ?_); omega)
    | ((with_reducible refine Arith.u64 ?_ ?_); omega)
    | ((with_reducible refine Arith.u32 ?_ ?_); omega)
    | ((with_reducible refine Arith.u16 ?_ ?_); omega)
    | ((with_reducible refine Arith.u8 ?_ ?_); omega)
    | ((with_reducible refine Arith.i32 ?_ ?_); omega)
    | (with_reducible refine Arith.mk ?_)
    | (with_reducible refine Ends.mk ?_))
  all_goals first | exact ⟨rfl, rfl⟩ | (exact absurd h (by decide)) | (exact absurd (by decide) h) | (exfalso; rw [decide_eq_true (by omega)] at h; exact absurd h (by decide)) | (exfalso; rw [decide_eq_false (by omega)] at h; exact absurd h (by decide)) | (exfalso; have e0 : (⟨#[]⟩ : ByteArray).size = 0 := rfl; omega)
set_option maxHeartbeats 4000000 in
theorem iplist_n1 (s : ByteArray) (hs : s.size ≤ 4096)  (y : Int × ByteArray) (ys : List (Int × ByteArray)) (h40 : s.size ≤ 40) (h1 : optP (s.size + 1) s [] = some (y :: ys)) (al : Det Try.prog 27 [] [] (vB true) []) : Det Try.prog 13 [.o .nils, .o (.str s)] [] (vB true) [] := by
  have M : Det Try.prog 36 [.o .nils] [] (vB false) [] := many_nil
  have OE : Det Try.prog 39 [.o (.str ⟨#[]⟩)] [] (.t [.o (.nils), .o (.int .i64 0)]) [] := options_can ⟨#[]⟩ (by decide) _ read_nil
  have S0 : Det Try.prog 41 [.o .nils, .o .nils] [] (vB true) [] := same_nn
  have hy := read_ok h40 h1
  have hyl := hy.2.1.1
  simp only [List.length_cons] at hyl
  have hyz := hy.2.2.1
  have hym := opts_mod hy.1
  have O1 : Det Try.prog 39 [.o (.str s)] [] (.t [.o (.slc 0 0 (ys.length + 1) (.upto 2)), .o (.int .i64 0)]) [.row true true (optSV (y :: ys))] := options_can s h40 _ h1
  have OD1 : Det Try.prog 37 [.o (.slc 0 0 (ys.length + 1) (.upto 2))] [.row true true (optSV (y :: ys))] (.t [.o (.str (opts10 (y :: ys))), .o (.int .i64 0)]) [.row true true (optSV (y :: ys))] := by
    have := opts_det true true (y :: ys) (ys.length + 1) (.upto 2) (optSV (y :: ys)) rfl rfl hy.2.1
    rwa [hy.1] at this
  have O2 : Det Try.prog 39 [.o (.str (opts10 (y :: ys)))] [] (.t [.o (.slc 0 0 (ys.length + 1) (.upto 2)), .o (.int .i64 0)]) [.row true true (optSV (y :: ys))] := options_can (opts10 (y :: ys)) hym.2 _ hy.2.2.2
  have S1 : Det Try.prog 41 [.o (.slc 0 0 (ys.length + 1) (.upto 2)), .o (.slc 1 0 (ys.length + 1) (.upto 2))] [.row true true (optSV (y :: ys)), .row true true (optSV (y :: ys))] (vB true) [.row true true (optSV (y :: ys)), .row true true (optSV (y :: ys))] := by
    have := same_can true true (y :: ys) (y :: ys) (.upto 2) (.upto 2) (by simp only [List.length_cons]; omega) (by simp only [List.length_cons]; omega)
    rwa [decide_eq_true (rfl : (y :: ys) = (y :: ys))] at this
  refine can_of_W known mix Try.func13 (by kernel_rfl) ok_law10_IpList (Nat.le_of_ble_eq_true rfl) ?_
  repeat' ((conv => whnf); first
    | ((with_reducible refine Look.mk ?_); refine ⟨_, rfl, ?_⟩)
    | ((with_reducible refine LookN.zeros ?_))
    | ((with_reducible refine LookN.bytes ?_ ?_); (simp; done))
    | ((with_reducible refine BytesW.bytes ?_))
    | ((with_reducible refine Look.byte ?_ ?_); omega)
    | ((with_reducible refine Look.setb ?_ ?_ ?_); exact bv8_bd _; omega)
    | ((with_reducible refine LookN.setb ?_ ?_ ?_); exact bv8_bd _; omega)
    | ((with_reducible refine LookN.mk ?_); refine ⟨_, rfl, ?_⟩)
    | ((with_reducible refine Need.mk ?_ ?_); first | ((with_reducible refine needB ?_); kernel_rfl) | with_reducible rfl | omega | (with_reducible refine ⟨rfl, ?_⟩; focus omega) | (simp only [ByteArray.size_append, size_lit, List.size_toArray, List.length_cons, List.length_nil, Sp.ofB_size, ByteArray.size_extract]; omega) | exact rfl | trivial | exact Nat.le_of_ble_eq_true rfl | (exact ⟨rfl, by omega⟩) | (intro h; first | rfl | cases h) | (simp only [lenS_text, lenS_setN, lenS_zeros]; omega))
    | ((with_reducible refine BytesW.mk ?_); refine ⟨_, rfl, ?_⟩)
    | (with_reducible refine CallW.det (M) ?_)
    | (with_reducible refine CallW.det (opts_nil) ?_)
    | (with_reducible refine CallW.det (OE) ?_)
    | (with_reducible refine CallW.det (S0) ?_)
    | (with_reducible refine CallW.det (O1) ?_)
    | (with_reducible refine CallW.det (OD1) ?_)
    | (with_reducible refine CallW.det (O2) ?_)
    | (with_reducible refine CallW.det (S1) ?_)
    | (with_reducible refine CallW.det (al) ?_)
    | ((with_reducible refine Test.tmodEqT ?_ ?_ ?_); omega; focus first | omega | assumption)
    | ((with_reducible refine Test.tmodEqF ?_ ?_ ?_); omega; focus first | omega | assumption)
    | ((with_reducible refine Test.tmodNeT ?_ ?_ ?_); omega; focus first | omega | assumption)
    | ((with_reducible refine Test.tmodNeF ?_ ?_ ?_); omega; focus first | omega | assumption)
    | ((with_reducible refine Test.tmodEq ?_ (fun h => ?_) (fun h => ?_)); omega)
    | ((with_reducible refine Test.tmodNe ?_ (fun h => ?_) (fun h => ?_)); omega)
    | ((with_reducible refine Test.notT ?_ ?_); focus assumption)
    | ((with_reducible refine Test.notF ?_ ?_); focus assumption)
    | (with_reducible refine Test.notIe (fun h => ?_) (fun h => ?_))
    | (with_reducible refine Test.notD (fun h => ?_) (fun h => ?_))
    | ((with_reducible refine Test.empty (fun h => ?_) (fun h => ?_)))
    | (with_reducible refine Test.tt ?_)
    | (with_reducible refine Test.ff ?_)
    | ((with_reducible refine Test.dt ?_ ?_); omega)
    | ((with_reducible refine Test.df ?_ ?_); omega)
    | (with_reducible refine Test.d (fun h => ?_) (fun h => ?_))
    | ((with_reducible refine Test.ieT ?_ ?_); omega)
    | ((with_reducible refine Test.ieF ?_ ?_); omega)
    | ((with_reducible refine Test.neT ?_ ?_); omega)
    | ((with_reducible refine Test.neF ?_ ?_); omega)
    | (with_reducible refine Test.ie (fun h => ?_) (fun h => ?_))
    | (with_reducible refine Test.ne (fun h => ?_) (fun h => ?_))
    | ((with_reducible refine Test.b ?_ ?_); (focus first | assumption | (simp [negB]; done) | exact rfl))
    | ((with_reducible refine Test.nb ?_ ?_); (focus first | assumption | (simp [negB]; done) | exact rfl))
    | (with_reducible refine Test.notS (fun h => ?_) (fun h => ?_))
    | (with_reducible refine Test.mk (fun h => ?_) (fun h => ?_))
    | ((with_reducible refine Arith.tdiv ?_ ?_); omega)
    | (with_reducible refine Arith.bv8 ?_)
    | (with_reducible refine Arith.bv16 ?_)
    | (with_reducible refine Arith.bv32 ?_)
    | (with_reducible refine Arith.bv64 ?_)
    | ((with_reducible refine Arith.i64 ?_ ?_); omega)
    | ((with_reducible refine Arith.u64 ?_ ?_); omega)
    | ((with_reducible refine Arith.u32 ?_ ?_); omega)
    | ((with_reducible refine Arith.u16 ?_ ?_); omega)
    | ((with_reducible refine Arith.u8 ?_ ?_); omega)
    | ((with_reducible refine Arith.i32 ?_ ?_); omega)
    | (with_reducible refine Arith.mk ?_)
    | (with_reducible refine Ends.mk ?_))
  all_goals first | exact ⟨rfl, rfl⟩ | (exact absurd h (by decide)) | (exact absurd (by decide) h) | (exfalso; rw [decide_eq_true (by omega)] at h; exact absurd h (by decide)) | (exfalso; rw [decide_eq_false (by omega)] at h; exact absurd h (by decide)) | (exfalso; have e0 : (⟨#[]⟩ : ByteArray).size = 0 := rfl; omega)
set_option maxHeartbeats 4000000 in
theorem iplist_nl (s : ByteArray) (hs : 4096 < s.size) (hs2 : s.size ≤ 140737488351232)  (al : Det Try.prog 27 [] [] (vB true) []) : Det Try.prog 13 [.o .nils, .o (.str s)] [] (vB true) [] := by
  have M : Det Try.prog 36 [.o .nils] [] (vB false) [] := many_nil
  have OE : Det Try.prog 39 [.o (.str ⟨#[]⟩)] [] (.t [.o (.nils), .o (.int .i64 0)]) [] := options_can ⟨#[]⟩ (by decide) _ read_nil
  have S0 : Det Try.prog 41 [.o .nils, .o .nils] [] (vB true) [] := same_nn
  refine can_of_W known mix Try.func13 (by kernel_rfl) ok_law10_IpList (Nat.le_of_ble_eq_true rfl) ?_
  repeat' ((conv => whnf); first
    | ((with_reducible refine Look.mk ?_); refine ⟨_, rfl, ?_⟩)
    | ((with_reducible refine LookN.zeros ?_))
    | ((with_reducible refine LookN.bytes ?_ ?_); (simp; done))
    | ((with_reducible refine BytesW.bytes ?_))
    | ((with_reducible refine Look.byte ?_ ?_); omega)
    | ((with_reducible refine Look.setb ?_ ?_ ?_); exact bv8_bd _; omega)
    | ((with_reducible refine LookN.setb ?_ ?_ ?_); exact bv8_bd _; omega)
    | ((with_reducible refine LookN.mk ?_); refine ⟨_, rfl, ?_⟩)
    | ((with_reducible refine Need.mk ?_ ?_); first | ((with_reducible refine needB ?_); kernel_rfl) | with_reducible rfl | omega | (with_reducible refine ⟨rfl, ?_⟩; focus omega) | (simp only [ByteArray.size_append, size_lit, List.size_toArray, List.length_cons, List.length_nil, Sp.ofB_size, ByteArray.size_extract]; omega) | exact rfl | trivial | exact Nat.le_of_ble_eq_true rfl | (exact ⟨rfl, by omega⟩) | (intro h; first | rfl | cases h) | (simp only [lenS_text, lenS_setN, lenS_zeros]; omega))
    | ((with_reducible refine BytesW.mk ?_); refine ⟨_, rfl, ?_⟩)
    | (with_reducible refine CallW.det (M) ?_)
    | (with_reducible refine CallW.det (opts_nil) ?_)
    | (with_reducible refine CallW.det (OE) ?_)
    | (with_reducible refine CallW.det (S0) ?_)
    | (with_reducible refine CallW.det (al) ?_)
    | ((with_reducible refine Test.tmodEqT ?_ ?_ ?_); omega; focus first | omega | assumption)
    | ((with_reducible refine Test.tmodEqF ?_ ?_ ?_); omega; focus first | omega | assumption)
    | ((with_reducible refine Test.tmodNeT ?_ ?_ ?_); omega; focus first | omega | assumption)
    | ((with_reducible refine Test.tmodNeF ?_ ?_ ?_); omega; focus first | omega | assumption)
    | ((with_reducible refine Test.tmodEq ?_ (fun h => ?_) (fun h => ?_)); omega)
    | ((with_reducible refine Test.tmodNe ?_ (fun h => ?_) (fun h => ?_)); omega)
    | ((with_reducible refine Test.notT ?_ ?_); focus assumption)
    | ((with_reducible refine Test.notF ?_ ?_); focus assumption)
    | (with_reducible refine Test.notIe (fun h => ?_) (fun h => ?_))
    | (with_reducible refine Test.notD (fun h => ?_) (fun h => ?_))
    | ((with_reducible refine Test.empty (fun h => ?_) (fun h => ?_)))
    | (with_reducible refine Test.tt ?_)
    | (with_reducible refine Test.ff ?_)
    | ((with_reducible refine Test.dt ?_ ?_); omega)
    | ((with_reducible refine Test.df ?_ ?_); omega)
    | (with_reducible refine Test.d (fun h => ?_) (fun h => ?_))
    | ((with_reducible refine Test.ieT ?_ ?_); omega)
    | ((with_reducible refine Test.ieF ?_ ?_); omega)
    | ((with_reducible refine Test.neT ?_ ?_); omega)
    | ((with_reducible refine Test.neF ?_ ?_); omega)
    | (with_reducible refine Test.ie (fun h => ?_) (fun h => ?_))
    | (with_reducible refine Test.ne (fun h => ?_) (fun h => ?_))
    | ((with_reducible refine Test.b ?_ ?_); (focus first | assumption | (simp [negB]; done) | exact rfl))
    | ((with_reducible refine Test.nb ?_ ?_); (focus first | assumption | (simp [negB]; done) | exact rfl))
    | (with_reducible refine Test.notS (fun h => ?_) (fun h => ?_))
    | (with_reducible refine Test.mk (fun h => ?_) (fun h => ?_))
    | ((with_reducible refine Arith.tdiv ?_ ?_); omega)
    | (with_reducible refine Arith.bv8 ?_)
    | (with_reducible refine Arith.bv16 ?_)
    | (with_reducible refine Arith.bv32 ?_)
    | (with_reducible refine Arith.bv64 ?_)
    | ((with_reducible refine Arith.i64 ?_ ?_); omega)
    | ((with_reducible refine Arith.u64 ?_ ?_); omega)
    | ((with_reducible refine Arith.u32 ?_ ?_); omega)
    | ((with_reducible refine Arith.u16 ?_ ?_); omega)
    | ((with_reducible refine Arith.u8 ?_ ?_); omega)
    | ((with_reducible refine Arith.i32 ?_ ?_); omega)
    | (with_reducible refine Arith.mk ?_)
    | (with_reducible refine Ends.mk ?_))
  all_goals first | exact ⟨rfl, rfl⟩ | (exact absurd h (by decide)) | (exact absurd (by decide) h) | (exfalso; rw [decide_eq_true (by omega)] at h; exact absurd h (by decide)) | (exfalso; rw [decide_eq_false (by omega)] at h; exact absurd h (by decide)) | (exfalso; have e0 : (⟨#[]⟩ : ByteArray).size = 0 := rfl; omega)
set_option maxHeartbeats 4000000 in
theorem iplist_bf (s : ByteArray) (hs : s.size ≤ 4096) (a : Bool) (xs : List (Int × ByteArray)) (cp : Cap) (hin : optIn xs) (he : ¬ opts10e xs = 0) (M : Det Try.prog 36 [.o (.slc 0 0 xs.length cp)] [.row a true (optSV xs)] (vB false) [.row a true (optSV xs)]) (h40 : 40 < s.size) (al : Det Try.prog 27 [] [] (vB true) []) : Det Try.prog 13 [.o (.slc 0 0 xs.length cp), .o (.str s)] [.row a true (optSV xs)] (vB true) [.row a true (optSV xs)] := by
  refine can_of_W known mix Try.func13 (by kernel_rfl) ok_law10_IpList (Nat.le_of_ble_eq_true rfl) ?_
  repeat' ((conv => whnf); first
    | ((with_reducible refine Look.mk ?_); refine ⟨_, rfl, ?_⟩)
    | ((with_reducible refine LookN.zeros ?_))
    | ((with_reducible refine LookN.bytes ?_ ?_); (simp; done))
    | ((with_reducible refine BytesW.bytes ?_))
    | ((with_reducible refine Look.byte ?_ ?_); omega)
    | ((with_reducible refine Look.setb ?_ ?_ ?_); exact bv8_bd _; omega)
    | ((with_reducible refine LookN.setb ?_ ?_ ?_); exact bv8_bd _; omega)
    | ((with_reducible refine LookN.mk ?_); refine ⟨_, rfl, ?_⟩)
    | ((with_reducible refine Need.mk ?_ ?_); first | ((with_reducible refine needB ?_); kernel_rfl) | with_reducible rfl | omega | (with_reducible refine ⟨rfl, ?_⟩; focus omega) | (simp only [ByteArray.size_append, size_lit, List.size_toArray, List.length_cons, List.length_nil, Sp.ofB_size, ByteArray.size_extract]; omega) | exact rfl | trivial | exact Nat.le_of_ble_eq_true rfl | (exact ⟨rfl, by omega⟩) | (intro h; first | rfl | cases h) | (simp only [lenS_text, lenS_setN, lenS_zeros]; omega))
    | ((with_reducible refine BytesW.mk ?_); refine ⟨_, rfl, ?_⟩)
    | (with_reducible refine CallW.det (M) ?_)
    | (with_reducible refine CallW.det (opts_det a true xs xs.length cp (optSV xs) rfl rfl hin) ?_)
    | (with_reducible refine CallW.det (options_far s h40 (by omega)) ?_)
    | (with_reducible refine CallW.det (al) ?_)
    | ((with_reducible refine Test.tmodEqT ?_ ?_ ?_); omega; focus first | omega | assumption)
    | ((with_reducible refine Test.tmodEqF ?_ ?_ ?_); omega; focus first | omega | assumption)
    | ((with_reducible refine Test.tmodNeT ?_ ?_ ?_); omega; focus first | omega | assumption)
    | ((with_reducible refine Test.tmodNeF ?_ ?_ ?_); omega; focus first | omega | assumption)
    | ((with_reducible refine Test.tmodEq ?_ (fun h => ?_) (fun h => ?_)); omega)
    | ((with_reducible refine Test.tmodNe ?_ (fun h => ?_) (fun h => ?_)); omega)
    | ((with_reducible refine Test.notT ?_ ?_); focus assumption)
    | ((with_reducible refine Test.notF ?_ ?_); focus assumption)
    | (with_reducible refine Test.notIe (fun h => ?_) (fun h => ?_))
    | (with_reducible refine Test.notD (fun h => ?_) (fun h => ?_))
    | ((with_reducible refine Test.empty (fun h => ?_) (fun h => ?_)))
    | (with_reducible refine Test.tt ?_)
    | (with_reducible refine Test.ff ?_)
    | ((with_reducible refine Test.dt ?_ ?_); omega)
    | ((with_reducible refine Test.df ?_ ?_); omega)
    | (with_reducible refine Test.d (fun h => ?_) (fun h => ?_))
    | ((with_reducible refine Test.ieT ?_ ?_); omega)
    | ((with_reducible refine Test.ieF ?_ ?_); omega)
    | ((with_reducible refine Test.neT ?_ ?_); omega)
    | ((with_reducible refine Test.neF ?_ ?_); omega)
    | (with_reducible refine Test.ie (fun h => ?_) (fun h => ?_))
    | (with_reducible refine Test.ne (fun h => ?_) (fun h => ?_))
    | ((with_reducible refine Test.b ?_ ?_); (focus first | assumption | (simp [negB]; done) | exact rfl))
    | ((with_reducible refine Test.nb ?_ ?_); (focus first | assumption | (simp [negB]; done) | exact rfl))
    | (with_reducible refine Test.notS (fun h => ?_) (fun h => ?_))
    | (with_reducible refine Test.mk (fun h => ?_) (fun h => ?_))
    | ((with_reducible refine Arith.tdiv ?_ ?_); omega)
    | (with_reducible refine Arith.bv8 ?_)
    | (with_reducible refine Arith.bv16 ?_)
    | (with_reducible refine Arith.bv32 ?_)
    | (with_reducible refine Arith.bv64 ?_)
    | ((with_reducible refine Arith.i64 ?_ ?_); omega)
    | ((with_reducible refine Arith.u64 ?_ ?_); omega)
    | ((with_reducible refine Arith.u32 ?_ ?_); omega)
    | ((with_reducible refine Arith.u16 ?_ ?_); omega)
    | ((with_reducible refine Arith.u8 ?_ ?_); omega)
    | ((with_reducible refine Arith.i32 ?_ ?_); omega)
    | (with_reducible refine Arith.mk ?_)
    | (with_reducible refine Ends.mk ?_))
  all_goals first | exact ⟨rfl, rfl⟩ | (exact absurd h (by decide)) | (exact absurd (by decide) h) | (exfalso; rw [decide_eq_true (by omega)] at h; exact absurd h (by decide)) | (exfalso; rw [decide_eq_false (by omega)] at h; exact absurd h (by decide)) | (exfalso; have e0 : (⟨#[]⟩ : ByteArray).size = 0 := rfl; omega)
set_option maxHeartbeats 4000000 in
theorem iplist_bx (s : ByteArray) (hs : s.size ≤ 4096) (a : Bool) (xs : List (Int × ByteArray)) (cp : Cap) (hin : optIn xs) (he : ¬ opts10e xs = 0) (M : Det Try.prog 36 [.o (.slc 0 0 xs.length cp)] [.row a true (optSV xs)] (vB false) [.row a true (optSV xs)]) (h40 : s.size ≤ 40) (h1 : optP (s.size + 1) s [] = none) (al : Det Try.prog 27 [] [] (vB true) []) : Det Try.prog 13 [.o (.slc 0 0 xs.length cp), .o (.str s)] [.row a true (optSV xs)] (vB true) [.row a true (optSV xs)] := by
  have OX : Det Try.prog 39 [.o (.str s)] [] (.t [.o .nils, .o (.int .i64 102)]) [] := options_can s h40 _ h1
  refine can_of_W known mix Try.func13 (by kernel_rfl) ok_law10_IpList (Nat.le_of_ble_eq_true rfl) ?_
  repeat' ((conv => whnf); first
    | ((with_reducible refine Look.mk ?_); refine ⟨_, rfl, ?_⟩)
    | ((with_reducible refine LookN.zeros ?_))
    | ((with_reducible refine LookN.bytes ?_ ?_); (simp; done))
    | ((with_reducible refine BytesW.bytes ?_))
    | ((with_reducible refine Look.byte ?_ ?_); omega)
    | ((with_reducible refine Look.setb ?_ ?_ ?_); exact bv8_bd _; omega)
    | ((with_reducible refine LookN.setb ?_ ?_ ?_); exact bv8_bd _; omega)
    | ((with_reducible refine LookN.mk ?_); refine ⟨_, rfl, ?_⟩)
    | ((with_reducible refine Need.mk ?_ ?_); first | ((with_reducible refine needB ?_); kernel_rfl) | with_reducible rfl | omega | (with_reducible refine ⟨rfl, ?_⟩; focus omega) | (simp only [ByteArray.size_append, size_lit, List.size_toArray, List.length_cons, List.length_nil, Sp.ofB_size, ByteArray.size_extract]; omega) | exact rfl | trivial | exact Nat.le_of_ble_eq_true rfl | (exact ⟨rfl, by omega⟩) | (intro h; first | rfl | cases h) | (simp only [lenS_text, lenS_setN, lenS_zeros]; omega))
    | ((with_reducible refine BytesW.mk ?_); refine ⟨_, rfl, ?_⟩)
    | (with_reducible refine CallW.det (M) ?_)
    | (with_reducible refine CallW.det (opts_det a true xs xs.length cp (optSV xs) rfl rfl hin) ?_)
    | (with_reducible refine CallW.det (OX) ?_)
    | (with_reducible refine CallW.det (al) ?_)
    | ((with_reducible refine Test.tmodEqT ?_ ?_ ?_); omega; focus first | omega | assumption)
    | ((with_reducible refine Test.tmodEqF ?_ ?_ ?_); omega; focus first | omega | assumption)
    | ((with_reducible refine Test.tmodNeT ?_ ?_ ?_); omega; focus first | omega | assumption)
    | ((with_reducible refine Test.tmodNeF ?_ ?_ ?_); omega; focus first | omega | assumption)
    | ((with_reducible refine Test.tmodEq ?_ (fun h => ?_) (fun h => ?_)); omega)
    | ((with_reducible refine Test.tmodNe ?_ (fun h => ?_) (fun h => ?_)); omega)
    | ((with_reducible refine Test.notT ?_ ?_); focus assumption)
    | ((with_reducible refine Test.notF ?_ ?_); focus assumption)
    | (with_reducible refine Test.notIe (fun h => ?_) (fun h => ?_))
    | (with_reducible refine Test.notD (fun h => ?_) (fun h => ?_))
    | ((with_reducible refine Test.empty (fun h => ?_) (fun h => ?_)))
    | (with_reducible refine Test.tt ?_)
    | (with_reducible refine Test.ff ?_)
    | ((with_reducible refine Test.dt ?_ ?_); omega)
    | ((with_reducible refine Test.df ?_ ?_); omega)
    | (with_reducible refine Test.d (fun h => ?_) (fun h => ?_))
    | ((with_reducible refine Test.ieT ?_ ?_); omega)
    | ((with_reducible refine Test.ieF ?_ ?_); omega)
    | ((with_reducible refine Test.neT ?_ ?_); omega)
    | ((with_reducible refine Test.neF ?_ ?_); omega)
    | (with_reducible refine Test.ie (fun h => ?_) (fun h => ?_))
    | (with_reducible refine Test.ne (fun h => ?_) (fun h => ?_))
    | ((with_reducible refine Test.b ?_ ?_); (focus first | assumption | (simp [negB]; done) | exact rfl))
    | ((with_reducible refine Test.nb ?_ ?_); (focus first | assumption | (simp [negB]; done) | exact rfl))
    | (with_reducible refine Test.notS (fun h => ?_) (fun h => ?_))
    | (with_reducible refine Test.mk (fun h => ?_) (fun h => ?_))
    | ((with_reducible refine Arith.tdiv ?_ ?_); omega)
    | (with_reducible refine Arith.bv8 ?_)
    | (with_reducible refine Arith.bv16 ?_)
    | (with_reducible refine Arith.bv32 ?_)
    | (with_reducible refine Arith.bv64 ?_)
    | ((with_reducible refine Arith.i64 ?_ ?_); omega)
    | ((with_reducible refine Arith.u64 ?_ ?_); omega)
    | ((with_reducible refine Arith.u32 ?_ ?_); omega)
    | ((with_reducible refine Arith.u16 ?_ ?_); omega)
    | ((with_reducible refine Arith.u8 ?_ ?_); omega)
    | ((with_reducible refine Arith.i32 ?_ ?_); omega)
    | (with_reducible refine Arith.mk ?_)
    | (with_reducible refine Ends.mk ?_))
  all_goals first | exact ⟨rfl, rfl⟩ | (exact absurd h (by decide)) | (exact absurd (by decide) h) | (exfalso; rw [decide_eq_true (by omega)] at h; exact absurd h (by decide)) | (exfalso; rw [decide_eq_false (by omega)] at h; exact absurd h (by decide)) | (exfalso; have e0 : (⟨#[]⟩ : ByteArray).size = 0 := rfl; omega)
set_option maxHeartbeats 4000000 in
theorem iplist_b0 (s : ByteArray) (hs : s.size ≤ 4096) (a : Bool) (xs : List (Int × ByteArray)) (cp : Cap) (hin : optIn xs) (he : ¬ opts10e xs = 0) (M : Det Try.prog 36 [.o (.slc 0 0 xs.length cp)] [.row a true (optSV xs)] (vB false) [.row a true (optSV xs)]) (h40 : s.size ≤ 40) (h1 : optP (s.size + 1) s [] = some []) (al : Det Try.prog 27 [] [] (vB true) []) : Det Try.prog 13 [.o (.slc 0 0 xs.length cp), .o (.str s)] [.row a true (optSV xs)] (vB true) [.row a true (optSV xs)] := by
  have O0 : Det Try.prog 39 [.o (.str s)] [] (.t [.o (.nils), .o (.int .i64 0)]) [] := options_can s h40 _ h1
  have OE2 : Det Try.prog 39 [.o (.str ⟨#[]⟩)] [] (.t [.o (.nils), .o (.int .i64 0)]) [] := options_can ⟨#[]⟩ (by decide) _ read_nil
  have S02 : Det Try.prog 41 [.o .nils, .o .nils] [] (vB true) [] := same_nn
  refine can_of_W known mix Try.func13 (by kernel_rfl) ok_law10_IpList (Nat.le_of_ble_eq_true rfl) ?_
  repeat' ((conv => whnf); first
    | ((with_reducible refine Look.mk ?_); refine ⟨_, rfl, ?_⟩)
    | ((with_reducible refine LookN.zeros ?_))
    | ((with_reducible refine LookN.bytes ?_ ?_); (simp; done))
    | ((with_reducible refine BytesW.bytes ?_))
    | ((with_reducible refine Look.byte ?_ ?_); omega)
    | ((with_reducible refine Look.setb ?_ ?_ ?_); exact bv8_bd _; omega)
    | ((with_reducible refine LookN.setb ?_ ?_ ?_); exact bv8_bd _; omega)
    | ((with_reducible refine LookN.mk ?_); refine ⟨_, rfl, ?_⟩)
    | ((with_reducible refine Need.mk ?_ ?_); first | ((with_reducible refine needB ?_); kernel_rfl) | with_reducible rfl | omega | (with_reducible refine ⟨rfl, ?_⟩; focus omega) | (simp only [ByteArray.size_append, size_lit, List.size_toArray, List.length_cons, List.length_nil, Sp.ofB_size, ByteArray.size_extract]; omega) | exact rfl | trivial | exact Nat.le_of_ble_eq_true rfl | (exact ⟨rfl, by omega⟩) | (intro h; first | rfl | cases h) | (simp only [lenS_text, lenS_setN, lenS_zeros]; omega))
    | ((with_reducible refine BytesW.mk ?_); refine ⟨_, rfl, ?_⟩)
    | (with_reducible refine CallW.det (M) ?_)
    | (with_reducible refine CallW.det (opts_det a true xs xs.length cp (optSV xs) rfl rfl hin) ?_)
    | (with_reducible refine CallW.det (O0) ?_)
    | (with_reducible refine CallW.det (opts_nil) ?_)
    | (with_reducible refine CallW.det (OE2) ?_)
    | (with_reducible refine CallW.det (S02) ?_)
    | (with_reducible refine CallW.det (al) ?_)
    | ((with_reducible refine Test.tmodEqT ?_ ?_ ?_); omega; focus first | omega | assumption)
    | ((with_reducible refine Test.tmodEqF ?_ ?_ ?_); omega; focus first | omega | assumption)
    | ((with_reducible refine Test.tmodNeT ?_ ?_ ?_); omega; focus first | omega | assumption)
    | ((with_reducible refine Test.tmodNeF ?_ ?_ ?_); omega; focus first | omega | assumption)
    | ((with_reducible refine Test.tmodEq ?_ (fun h => ?_) (fun h => ?_)); omega)
    | ((with_reducible refine Test.tmodNe ?_ (fun h => ?_) (fun h => ?_)); omega)
    | ((with_reducible refine Test.notT ?_ ?_); focus assumption)
    | ((with_reducible refine Test.notF ?_ ?_); focus assumption)
    | (with_reducible refine Test.notIe (fun h => ?_) (fun h => ?_))
    | (with_reducible refine Test.notD (fun h => ?_) (fun h => ?_))
    | ((with_reducible refine Test.empty (fun h => ?_) (fun h => ?_)))
    | (with_reducible refine Test.tt ?_)
    | (with_reducible refine Test.ff ?_)
    | ((with_reducible refine Test.dt ?_ ?_); omega)
    | ((with_reducible refine Test.df ?_ ?_); omega)
    | (with_reducible refine Test.d (fun h => ?_) (fun h => ?_))
    | ((with_reducible refine Test.ieT ?_ ?_); omega)
    | ((with_reducible refine Test.ieF ?_ ?_); omega)
    | ((with_reducible refine Test.neT ?_ ?_); omega)
    | ((with_reducible refine Test.neF ?_ ?_); omega)
    | (with_reducible refine Test.ie (fun h => ?_) (fun h => ?_))
    | (with_reducible refine Test.ne (fun h => ?_) (fun h => ?_))
    | ((with_reducible refine Test.b ?_ ?_); (focus first | assumption | (simp [negB]; done) | exact rfl))
    | ((with_reducible refine Test.nb ?_ ?_); (focus first | assumption | (simp [negB]; done) | exact rfl))
    | (with_reducible refine Test.notS (fun h => ?_) (fun h => ?_))
    | (with_reducible refine Test.mk (fun h => ?_) (fun h => ?_))
    | ((with_reducible refine Arith.tdiv ?_ ?_); omega)
    | (with_reducible refine Arith.bv8 ?_)
    | (with_reducible refine Arith.bv16 ?_)
    | (with_reducible refine Arith.bv32 ?_)
    | (with_reducible refine Arith.bv64 ?_)
    | ((with_reducible refine Arith.i64 ?_ ?_); omega)
    | ((with_reducible refine Arith.u64 ?_ ?_); omega)
    | ((with_reducible refine Arith.u32 ?_ ?_); omega)
    | ((with_reducible refine Arith.u16 ?_ ?_); omega)
    | ((with_reducible refine Arith.u8 ?_ ?_); omega)
    | ((with_reducible refine Arith.i32 ?_ ?_); omega)
    | (with_reducible refine Arith.mk ?_)
    | (with_reducible refine Ends.mk ?_))
  all_goals first | exact ⟨rfl, rfl⟩ | (exact absurd h (by decide)) | (exact absurd (by decide) h) | (exfalso; rw [decide_eq_true (by omega)] at h; exact absurd h (by decide)) | (exfalso; rw [decide_eq_false (by omega)] at h; exact absurd h (by decide)) | (exfalso; have e0 : (⟨#[]⟩ : ByteArray).size = 0 := rfl; omega)
set_option maxHeartbeats 4000000 in
theorem iplist_b1 (s : ByteArray) (hs : s.size ≤ 4096) (a : Bool) (xs : List (Int × ByteArray)) (cp : Cap) (hin : optIn xs) (he : ¬ opts10e xs = 0) (M : Det Try.prog 36 [.o (.slc 0 0 xs.length cp)] [.row a true (optSV xs)] (vB false) [.row a true (optSV xs)]) (y : Int × ByteArray) (ys : List (Int × ByteArray)) (h40 : s.size ≤ 40) (h1 : optP (s.size + 1) s [] = some (y :: ys)) (al : Det Try.prog 27 [] [] (vB true) []) : Det Try.prog 13 [.o (.slc 0 0 xs.length cp), .o (.str s)] [.row a true (optSV xs)] (vB true) [.row a true (optSV xs)] := by
  have hy := read_ok h40 h1
  have hyl := hy.2.1.1
  simp only [List.length_cons] at hyl
  have hyz := hy.2.2.1
  have hym := opts_mod hy.1
  have O1 : Det Try.prog 39 [.o (.str s)] [] (.t [.o (.slc 0 0 (ys.length + 1) (.upto 2)), .o (.int .i64 0)]) [.row true true (optSV (y :: ys))] := options_can s h40 _ h1
  have OD1 : Det Try.prog 37 [.o (.slc 0 0 (ys.length + 1) (.upto 2))] [.row true true (optSV (y :: ys))] (.t [.o (.str (opts10 (y :: ys))), .o (.int .i64 0)]) [.row true true (optSV (y :: ys))] := by
    have := opts_det true true (y :: ys) (ys.length + 1) (.upto 2) (optSV (y :: ys)) rfl rfl hy.2.1
    rwa [hy.1] at this
  have O2 : Det Try.prog 39 [.o (.str (opts10 (y :: ys)))] [] (.t [.o (.slc 0 0 (ys.length + 1) (.upto 2)), .o (.int .i64 0)]) [.row true true (optSV (y :: ys))] := options_can (opts10 (y :: ys)) hym.2 _ hy.2.2.2
  have S1 : Det Try.prog 41 [.o (.slc 0 0 (ys.length + 1) (.upto 2)), .o (.slc 1 0 (ys.length + 1) (.upto 2))] [.row true true (optSV (y :: ys)), .row true true (optSV (y :: ys))] (vB true) [.row true true (optSV (y :: ys)), .row true true (optSV (y :: ys))] := by
    have := same_can true true (y :: ys) (y :: ys) (.upto 2) (.upto 2) (by simp only [List.length_cons]; omega) (by simp only [List.length_cons]; omega)
    rwa [decide_eq_true (rfl : (y :: ys) = (y :: ys))] at this
  refine can_of_W known mix Try.func13 (by kernel_rfl) ok_law10_IpList (Nat.le_of_ble_eq_true rfl) ?_
  repeat' ((conv => whnf); first
    | ((with_reducible refine Look.mk ?_); refine ⟨_, rfl, ?_⟩)
    | ((with_reducible refine LookN.zeros ?_))
    | ((with_reducible refine LookN.bytes ?_ ?_); (simp; done))
    | ((with_reducible refine BytesW.bytes ?_))
    | ((with_reducible refine Look.byte ?_ ?_); omega)
    | ((with_reducible refine Look.setb ?_ ?_ ?_); exact bv8_bd _; omega)
    | ((with_reducible refine LookN.setb ?_ ?_ ?_); exact bv8_bd _; omega)
    | ((with_reducible refine LookN.mk ?_); refine ⟨_, rfl, ?_⟩)
    | ((with_reducible refine Need.mk ?_ ?_); first | ((with_reducible refine needB ?_); kernel_rfl) | with_reducible rfl | omega | (with_reducible refine ⟨rfl, ?_⟩; focus omega) | (simp only [ByteArray.size_append, size_lit, List.size_toArray, List.length_cons, List.length_nil, Sp.ofB_size, ByteArray.size_extract]; omega) | exact rfl | trivial | exact Nat.le_of_ble_eq_true rfl | (exact ⟨rfl, by omega⟩) | (intro h; first | rfl | cases h) | (simp only [lenS_text, lenS_setN, lenS_zeros]; omega))
    | ((with_reducible refine BytesW.mk ?_); refine ⟨_, rfl, ?_⟩)
    | (with_reducible refine CallW.det (M) ?_)
    | (with_reducible refine CallW.det (opts_det a true xs xs.length cp (optSV xs) rfl rfl hin) ?_)
    | (with_reducible refine CallW.det (O1) ?_)
    | (with_reducible refine CallW.det (OD1) ?_)
    | (with_reducible refine CallW.det (O2) ?_)
    | (with_reducible refine CallW.det (S1) ?_)
    | (with_reducible refine CallW.det (al) ?_)
    | ((with_reducible refine Test.tmodEqT ?_ ?_ ?_); omega; focus first | omega | assumption)
    | ((with_reducible refine Test.tmodEqF ?_ ?_ ?_); omega; focus first | omega | assumption)
    | ((with_reducible refine Test.tmodNeT ?_ ?_ ?_); omega; focus first | omega | assumption)
    | ((with_reducible refine Test.tmodNeF ?_ ?_ ?_); omega; focus first | omega | assumption)
    | ((with_reducible refine Test.tmodEq ?_ (fun h => ?_) (fun h => ?_)); omega)
    | ((with_reducible refine Test.tmodNe ?_ (fun h => ?_) (fun h => ?_)); omega)
    | ((with_reducible refine Test.notT ?_ ?_); focus assumption)
    | ((with_reducible refine Test.notF ?_ ?_); focus assumption)
    | (with_reducible refine Test.notIe (fun h => ?_) (fun h => ?_))
    | (with_reducible refine Test.notD (fun h => ?_) (fun h => ?_))
    | ((with_reducible refine Test.empty (fun h => ?_) (fun h => ?_)))
    | (with_reducible refine Test.tt ?_)
    | (with_reducible refine Test.ff ?_)
    | ((with_reducible refine Test.dt ?_ ?_); omega)
    | ((with_reducible refine Test.df ?_ ?_); omega)
    | (with_reducible refine Test.d (fun h => ?_) (fun h => ?_))
    | ((with_reducible refine Test.ieT ?_ ?_); omega)
    | ((with_reducible refine Test.ieF ?_ ?_); omega)
    | ((with_reducible refine Test.neT ?_ ?_); omega)
    | ((with_reducible refine Test.neF ?_ ?_); omega)
    | (with_reducible refine Test.ie (fun h => ?_) (fun h => ?_))
    | (with_reducible refine Test.ne (fun h => ?_) (fun h => ?_))
    | ((with_reducible refine Test.b ?_ ?_); (focus first | assumption | (simp [negB]; done) | exact rfl))
    | ((with_reducible refine Test.nb ?_ ?_); (focus first | assumption | (simp [negB]; done) | exact rfl))
    | (with_reducible refine Test.notS (fun h => ?_) (fun h => ?_))
    | (with_reducible refine Test.mk (fun h => ?_) (fun h => ?_))
    | ((with_reducible refine Arith.tdiv ?_ ?_); omega)
    | (with_reducible refine Arith.bv8 ?_)
    | (with_reducible refine Arith.bv16 ?_)
    | (with_reducible refine Arith.bv32 ?_)
    | (with_reducible refine Arith.bv64 ?_)
    | ((with_reducible refine Arith.i64 ?_ ?_); omega)
    | ((with_reducible refine Arith.u64 ?_ ?_); omega)
    | ((with_reducible refine Arith.u32 ?_ ?_); omega)
    | ((with_reducible refine Arith.u16 ?_ ?_); omega)
    | ((with_reducible refine Arith.u8 ?_ ?_); omega)
    | ((with_reducible refine Arith.i32 ?_ ?_); omega)
    | (with_reducible refine Arith.mk ?_)
    | (with_reducible refine Ends.mk ?_))
  all_goals first | exact ⟨rfl, rfl⟩ | (exact absurd h (by decide)) | (exact absurd (by decide) h) | (exfalso; rw [decide_eq_true (by omega)] at h; exact absurd h (by decide)) | (exfalso; rw [decide_eq_false (by omega)] at h; exact absurd h (by decide)) | (exfalso; have e0 : (⟨#[]⟩ : ByteArray).size = 0 := rfl; omega)
set_option maxHeartbeats 4000000 in
theorem iplist_ef (s : ByteArray) (hs : s.size ≤ 4096) (a : Bool) (cp : Cap) (M : Det Try.prog 36 [.o (.slc 0 0 0 cp)] [.row a true []] (vB false) [.row a true []]) (h40 : 40 < s.size) (al : Det Try.prog 27 [] [] (vB true) []) : Det Try.prog 13 [.o (.slc 0 0 0 cp), .o (.str s)] [.row a true []] (vB true) [.row a true []] := by
  have OD : Det Try.prog 37 [.o (.slc 0 0 0 cp)] [.row a true []] (.t [.o (.str ⟨#[]⟩), .o (.int .i64 0)]) [.row a true []] := by
    have := opts_det a true [] 0 cp [] rfl rfl ⟨by decide, by simp, by simp, by decide⟩
    rwa [show opts10 [] = ⟨#[]⟩ by decide +kernel, show opts10e [] = 0 by decide] at this
  have OE : Det Try.prog 39 [.o (.str ⟨#[]⟩)] [] (.t [.o (.nils), .o (.int .i64 0)]) [] := options_can ⟨#[]⟩ (by decide) _ read_nil
  have SE := same_en a cp
  refine can_of_W known mix Try.func13 (by kernel_rfl) ok_law10_IpList (Nat.le_of_ble_eq_true rfl) ?_
  repeat' ((conv => whnf); first
    | ((with_reducible refine Look.mk ?_); refine ⟨_, rfl, ?_⟩)
    | ((with_reducible refine LookN.zeros ?_))
    | ((with_reducible refine LookN.bytes ?_ ?_); (simp; done))
    | ((with_reducible refine BytesW.bytes ?_))
    | ((with_reducible refine Look.byte ?_ ?_); omega)
    | ((with_reducible refine Look.setb ?_ ?_ ?_); exact bv8_bd _; omega)
    | ((with_reducible refine LookN.setb ?_ ?_ ?_); exact bv8_bd _; omega)
    | ((with_reducible refine LookN.mk ?_); refine ⟨_, rfl, ?_⟩)
    | ((with_reducible refine Need.mk ?_ ?_); first | ((with_reducible refine needB ?_); kernel_rfl) | with_reducible rfl | omega | (with_reducible refine ⟨rfl, ?_⟩; focus omega) | (simp only [ByteArray.size_append, size_lit, List.size_toArray, List.length_cons, List.length_nil, Sp.ofB_size, ByteArray.size_extract]; omega) | exact rfl | trivial | exact Nat.le_of_ble_eq_true rfl | (exact ⟨rfl, by omega⟩) | (intro h; first | rfl | cases h) | (simp only [lenS_text, lenS_setN, lenS_zeros]; omega))
    | ((with_reducible refine BytesW.mk ?_); refine ⟨_, rfl, ?_⟩)
    | (with_reducible refine CallW.det (M) ?_)
    | (with_reducible refine CallW.det (OD) ?_)
    | (with_reducible refine CallW.det (OE) ?_)
    | (with_reducible refine CallW.det (SE) ?_)
    | (with_reducible refine CallW.det (options_far s h40 (by omega)) ?_)
    | (with_reducible refine CallW.det (al) ?_)
    | ((with_reducible refine Test.tmodEqT ?_ ?_ ?_); omega; focus first | omega | assumption)
    | ((with_reducible refine Test.tmodEqF ?_ ?_ ?_); omega; focus first | omega | assumption)
    | ((with_reducible refine Test.tmodNeT ?_ ?_ ?_); omega; focus first | omega | assumption)
    | ((with_reducible refine Test.tmodNeF ?_ ?_ ?_); omega; focus first | omega | assumption)
    | ((with_reducible refine Test.tmodEq ?_ (fun h => ?_) (fun h => ?_)); omega)
    | ((with_reducible refine Test.tmodNe ?_ (fun h => ?_) (fun h => ?_)); omega)
    | ((with_reducible refine Test.notT ?_ ?_); focus assumption)
    | ((with_reducible refine Test.notF ?_ ?_); focus assumption)
    | (with_reducible refine Test.notIe (fun h => ?_) (fun h => ?_))
    | (with_reducible refine Test.notD (fun h => ?_) (fun h => ?_))
    | ((with_reducible refine Test.empty (fun h => ?_) (fun h => ?_)))
    | (with_reducible refine Test.tt ?_)
    | (with_reducible refine Test.ff ?_)
    | ((with_reducible refine Test.dt ?_ ?_); omega)
    | ((with_reducible refine Test.df ?_ ?_); omega)
    | (with_reducible refine Test.d (fun h => ?_) (fun h => ?_))
    | ((with_reducible refine Test.ieT ?_ ?_); omega)
    | ((with_reducible refine Test.ieF ?_ ?_); omega)
    | ((with_reducible refine Test.neT ?_ ?_); omega)
    | ((with_reducible refine Test.neF ?_ ?_); omega)
    | (with_reducible refine Test.ie (fun h => ?_) (fun h => ?_))
    | (with_reducible refine Test.ne (fun h => ?_) (fun h => ?_))
    | ((with_reducible refine Test.b ?_ ?_); (focus first | assumption | (simp [negB]; done) | exact rfl))
    | ((with_reducible refine Test.nb ?_ ?_); (focus first | assumption | (simp [negB]; done) | exact rfl))
    | (with_reducible refine Test.notS (fun h => ?_) (fun h => ?_))
    | (with_reducible refine Test.mk (fun h => ?_) (fun h => ?_))
    | ((with_reducible refine Arith.tdiv ?_ ?_); omega)
    | (with_reducible refine Arith.bv8 ?_)
    | (with_reducible refine Arith.bv16 ?_)
    | (with_reducible refine Arith.bv32 ?_)
    | (with_reducible refine Arith.bv64 ?_)
    | ((with_reducible refine Arith.i64 ?_ ?_); omega)
    | ((with_reducible refine Arith.u64 ?_ ?_); omega)
    | ((with_reducible refine Arith.u32 ?_ ?_); omega)
    | ((with_reducible refine Arith.u16 ?_ ?_); omega)
    | ((with_reducible refine Arith.u8 ?_ ?_); omega)
    | ((with_reducible refine Arith.i32 ?_ ?_); omega)
    | (with_reducible refine Arith.mk ?_)
    | (with_reducible refine Ends.mk ?_))
  all_goals first | exact ⟨rfl, rfl⟩ | (exact absurd h (by decide)) | (exact absurd (by decide) h) | (exfalso; rw [decide_eq_true (by omega)] at h; exact absurd h (by decide)) | (exfalso; rw [decide_eq_false (by omega)] at h; exact absurd h (by decide)) | (exfalso; have e0 : (⟨#[]⟩ : ByteArray).size = 0 := rfl; omega)
set_option maxHeartbeats 4000000 in
theorem iplist_ex (s : ByteArray) (hs : s.size ≤ 4096) (a : Bool) (cp : Cap) (M : Det Try.prog 36 [.o (.slc 0 0 0 cp)] [.row a true []] (vB false) [.row a true []]) (h40 : s.size ≤ 40) (h1 : optP (s.size + 1) s [] = none) (al : Det Try.prog 27 [] [] (vB true) []) : Det Try.prog 13 [.o (.slc 0 0 0 cp), .o (.str s)] [.row a true []] (vB true) [.row a true []] := by
  have OD : Det Try.prog 37 [.o (.slc 0 0 0 cp)] [.row a true []] (.t [.o (.str ⟨#[]⟩), .o (.int .i64 0)]) [.row a true []] := by
    have := opts_det a true [] 0 cp [] rfl rfl ⟨by decide, by simp, by simp, by decide⟩
    rwa [show opts10 [] = ⟨#[]⟩ by decide +kernel, show opts10e [] = 0 by decide] at this
  have OE : Det Try.prog 39 [.o (.str ⟨#[]⟩)] [] (.t [.o (.nils), .o (.int .i64 0)]) [] := options_can ⟨#[]⟩ (by decide) _ read_nil
  have SE := same_en a cp
  have OX : Det Try.prog 39 [.o (.str s)] [] (.t [.o .nils, .o (.int .i64 102)]) [] := options_can s h40 _ h1
  refine can_of_W known mix Try.func13 (by kernel_rfl) ok_law10_IpList (Nat.le_of_ble_eq_true rfl) ?_
  repeat' ((conv => whnf); first
    | ((with_reducible refine Look.mk ?_); refine ⟨_, rfl, ?_⟩)
    | ((with_reducible refine LookN.zeros ?_))
    | ((with_reducible refine LookN.bytes ?_ ?_); (simp; done))
    | ((with_reducible refine BytesW.bytes ?_))
    | ((with_reducible refine Look.byte ?_ ?_); omega)
    | ((with_reducible refine Look.setb ?_ ?_ ?_); exact bv8_bd _; omega)
    | ((with_reducible refine LookN.setb ?_ ?_ ?_); exact bv8_bd _; omega)
    | ((with_reducible refine LookN.mk ?_); refine ⟨_, rfl, ?_⟩)
    | ((with_reducible refine Need.mk ?_ ?_); first | ((with_reducible refine needB ?_); kernel_rfl) | with_reducible rfl | omega | (with_reducible refine ⟨rfl, ?_⟩; focus omega) | (simp only [ByteArray.size_append, size_lit, List.size_toArray, List.length_cons, List.length_nil, Sp.ofB_size, ByteArray.size_extract]; omega) | exact rfl | trivial | exact Nat.le_of_ble_eq_true rfl | (exact ⟨rfl, by omega⟩) | (intro h; first | rfl | cases h) | (simp only [lenS_text, lenS_setN, lenS_zeros]; omega))
    | ((with_reducible refine BytesW.mk ?_); refine ⟨_, rfl, ?_⟩)
    | (with_reducible refine CallW.det (M) ?_)
    | (with_reducible refine CallW.det (OD) ?_)
    | (with_reducible refine CallW.det (OE) ?_)
    | (with_reducible refine CallW.det (SE) ?_)
    | (with_reducible refine CallW.det (OX) ?_)
    | (with_reducible refine CallW.det (al) ?_)
    | ((with_reducible refine Test.tmodEqT ?_ ?_ ?_); omega; focus first | omega | assumption)
    | ((with_reducible refine Test.tmodEqF ?_ ?_ ?_); omega; focus first | omega | assumption)
    | ((with_reducible refine Test.tmodNeT ?_ ?_ ?_); omega; focus first | omega | assumption)
    | ((with_reducible refine Test.tmodNeF ?_ ?_ ?_); omega; focus first | omega | assumption)
    | ((with_reducible refine Test.tmodEq ?_ (fun h => ?_) (fun h => ?_)); omega)
    | ((with_reducible refine Test.tmodNe ?_ (fun h => ?_) (fun h => ?_)); omega)
    | ((with_reducible refine Test.notT ?_ ?_); focus assumption)
    | ((with_reducible refine Test.notF ?_ ?_); focus assumption)
    | (with_reducible refine Test.notIe (fun h => ?_) (fun h => ?_))
    | (with_reducible refine Test.notD (fun h => ?_) (fun h => ?_))
    | ((with_reducible refine Test.empty (fun h => ?_) (fun h => ?_)))
    | (with_reducible refine Test.tt ?_)
    | (with_reducible refine Test.ff ?_)
    | ((with_reducible refine Test.dt ?_ ?_); omega)
    | ((with_reducible refine Test.df ?_ ?_); omega)
    | (with_reducible refine Test.d (fun h => ?_) (fun h => ?_))
    | ((with_reducible refine Test.ieT ?_ ?_); omega)
    | ((with_reducible refine Test.ieF ?_ ?_); omega)
    | ((with_reducible refine Test.neT ?_ ?_); omega)
    | ((with_reducible refine Test.neF ?_ ?_); omega)
    | (with_reducible refine Test.ie (fun h => ?_) (fun h => ?_))
    | (with_reducible refine Test.ne (fun h => ?_) (fun h => ?_))
    | ((with_reducible refine Test.b ?_ ?_); (focus first | assumption | (simp [negB]; done) | exact rfl))
    | ((with_reducible refine Test.nb ?_ ?_); (focus first | assumption | (simp [negB]; done) | exact rfl))
    | (with_reducible refine Test.notS (fun h => ?_) (fun h => ?_))
    | (with_reducible refine Test.mk (fun h => ?_) (fun h => ?_))
    | ((with_reducible refine Arith.tdiv ?_ ?_); omega)
    | (with_reducible refine Arith.bv8 ?_)
    | (with_reducible refine Arith.bv16 ?_)
    | (with_reducible refine Arith.bv32 ?_)
    | (with_reducible refine Arith.bv64 ?_)
    | ((with_reducible refine Arith.i64 ?_ ?_); omega)
    | ((with_reducible refine Arith.u64 ?_ ?_); omega)
    | ((with_reducible refine Arith.u32 ?_ ?_); omega)
    | ((with_reducible refine Arith.u16 ?_ ?_); omega)
    | ((with_reducible refine Arith.u8 ?_ ?_); omega)
    | ((with_reducible refine Arith.i32 ?_ ?_); omega)
    | (with_reducible refine Arith.mk ?_)
    | (with_reducible refine Ends.mk ?_))
  all_goals first | exact ⟨rfl, rfl⟩ | (exact absurd h (by decide)) | (exact absurd (by decide) h) | (exfalso; rw [decide_eq_true (by omega)] at h; exact absurd h (by decide)) | (exfalso; rw [decide_eq_false (by omega)] at h; exact absurd h (by decide)) | (exfalso; have e0 : (⟨#[]⟩ : ByteArray).size = 0 := rfl; omega)
set_option maxHeartbeats 4000000 in
theorem iplist_e0 (s : ByteArray) (hs : s.size ≤ 4096) (a : Bool) (cp : Cap) (M : Det Try.prog 36 [.o (.slc 0 0 0 cp)] [.row a true []] (vB false) [.row a true []]) (h40 : s.size ≤ 40) (h1 : optP (s.size + 1) s [] = some []) (al : Det Try.prog 27 [] [] (vB true) []) : Det Try.prog 13 [.o (.slc 0 0 0 cp), .o (.str s)] [.row a true []] (vB true) [.row a true []] := by
  have OD : Det Try.prog 37 [.o (.slc 0 0 0 cp)] [.row a true []] (.t [.o (.str ⟨#[]⟩), .o (.int .i64 0)]) [.row a true []] := by
    have := opts_det a true [] 0 cp [] rfl rfl ⟨by decide, by simp, by simp, by decide⟩
    rwa [show opts10 [] = ⟨#[]⟩ by decide +kernel, show opts10e [] = 0 by decide] at this
  have OE : Det Try.prog 39 [.o (.str ⟨#[]⟩)] [] (.t [.o (.nils), .o (.int .i64 0)]) [] := options_can ⟨#[]⟩ (by decide) _ read_nil
  have SE := same_en a cp
  have O0 : Det Try.prog 39 [.o (.str s)] [] (.t [.o (.nils), .o (.int .i64 0)]) [] := options_can s h40 _ h1
  have OE2 : Det Try.prog 39 [.o (.str ⟨#[]⟩)] [] (.t [.o (.nils), .o (.int .i64 0)]) [] := options_can ⟨#[]⟩ (by decide) _ read_nil
  have S02 : Det Try.prog 41 [.o .nils, .o .nils] [] (vB true) [] := same_nn
  refine can_of_W known mix Try.func13 (by kernel_rfl) ok_law10_IpList (Nat.le_of_ble_eq_true rfl) ?_
  repeat' ((conv => whnf); first
    | ((with_reducible refine Look.mk ?_); refine ⟨_, rfl, ?_⟩)
    | ((with_reducible refine LookN.zeros ?_))
    | ((with_reducible refine LookN.bytes ?_ ?_); (simp; done))
    | ((with_reducible refine BytesW.bytes ?_))
    | ((with_reducible refine Look.byte ?_ ?_); omega)
    | ((with_reducible refine Look.setb ?_ ?_ ?_); exact bv8_bd _; omega)
    | ((with_reducible refine LookN.setb ?_ ?_ ?_); exact bv8_bd _; omega)
    | ((with_reducible refine LookN.mk ?_); refine ⟨_, rfl, ?_⟩)
    | ((with_reducible refine Need.mk ?_ ?_); first | ((with_reducible refine needB ?_); kernel_rfl) | with_reducible rfl | omega | (with_reducible refine ⟨rfl, ?_⟩; focus omega) | (simp only [ByteArray.size_append, size_lit, List.size_toArray, List.length_cons, List.length_nil, Sp.ofB_size, ByteArray.size_extract]; omega) | exact rfl | trivial | exact Nat.le_of_ble_eq_true rfl | (exact ⟨rfl, by omega⟩) | (intro h; first | rfl | cases h) | (simp only [lenS_text, lenS_setN, lenS_zeros]; omega))
    | ((with_reducible refine BytesW.mk ?_); refine ⟨_, rfl, ?_⟩)
    | (with_reducible refine CallW.det (M) ?_)
    | (with_reducible refine CallW.det (OD) ?_)
    | (with_reducible refine CallW.det (OE) ?_)
    | (with_reducible refine CallW.det (SE) ?_)
    | (with_reducible refine CallW.det (O0) ?_)
    | (with_reducible refine CallW.det (opts_nil) ?_)
    | (with_reducible refine CallW.det (OE2) ?_)
    | (with_reducible refine CallW.det (S02) ?_)
    | (with_reducible refine CallW.det (al) ?_)
    | ((with_reducible refine Test.tmodEqT ?_ ?_ ?_); omega; focus first | omega | assumption)
    | ((with_reducible refine Test.tmodEqF ?_ ?_ ?_); omega; focus first | omega | assumption)
    | ((with_reducible refine Test.tmodNeT ?_ ?_ ?_); omega; focus first | omega | assumption)
    | ((with_reducible refine Test.tmodNeF ?_ ?_ ?_); omega; focus first | omega | assumption)
    | ((with_reducible refine Test.tmodEq ?_ (fun h => ?_) (fun h => ?_)); omega)
    | ((with_reducible refine Test.tmodNe ?_ (fun h => ?_) (fun h => ?_)); omega)
    | ((with_reducible refine Test.notT ?_ ?_); focus assumption)
    | ((with_reducible refine Test.notF ?_ ?_); focus assumption)
    | (with_reducible refine Test.notIe (fun h => ?_) (fun h => ?_))
    | (with_reducible refine Test.notD (fun h => ?_) (fun h => ?_))
    | ((with_reducible refine Test.empty (fun h => ?_) (fun h => ?_)))
    | (with_reducible refine Test.tt ?_)
    | (with_reducible refine Test.ff ?_)
    | ((with_reducible refine Test.dt ?_ ?_); omega)
    | ((with_reducible refine Test.df ?_ ?_); omega)
    | (with_reducible refine Test.d (fun h => ?_) (fun h => ?_))
    | ((with_reducible refine Test.ieT ?_ ?_); omega)
    | ((with_reducible refine Test.ieF ?_ ?_); omega)
    | ((with_reducible refine Test.neT ?_ ?_); omega)
    | ((with_reducible refine Test.neF ?_ ?_); omega)
    | (with_reducible refine Test.ie (fun h => ?_) (fun h => ?_))
    | (with_reducible refine Test.ne (fun h => ?_) (fun h => ?_))
    | ((with_reducible refine Test.b ?_ ?_); (focus first | assumption | (simp [negB]; done) | exact rfl))
    | ((with_reducible refine Test.nb ?_ ?_); (focus first | assumption | (simp [negB]; done) | exact rfl))
    | (with_reducible refine Test.notS (fun h => ?_) (fun h => ?_))
    | (with_reducible refine Test.mk (fun h => ?_) (fun h => ?_))
    | ((with_reducible refine Arith.tdiv ?_ ?_); omega)
    | (with_reducible refine Arith.bv8 ?_)
    | (with_reducible refine Arith.bv16 ?_)
    | (with_reducible refine Arith.bv32 ?_)
    | (with_reducible refine Arith.bv64 ?_)
    | ((with_reducible refine Arith.i64 ?_ ?_); omega)
    | ((with_reducible refine Arith.u64 ?_ ?_); omega)
    | ((with_reducible refine Arith.u32 ?_ ?_); omega)
    | ((with_reducible refine Arith.u16 ?_ ?_); omega)
    | ((with_reducible refine Arith.u8 ?_ ?_); omega)
    | ((with_reducible refine Arith.i32 ?_ ?_); omega)
    | (with_reducible refine Arith.mk ?_)
    | (with_reducible refine Ends.mk ?_))
  all_goals first | exact ⟨rfl, rfl⟩ | (exact absurd h (by decide)) | (exact absurd (by decide) h) | (exfalso; rw [decide_eq_true (by omega)] at h; exact absurd h (by decide)) | (exfalso; rw [decide_eq_false (by omega)] at h; exact absurd h (by decide)) | (exfalso; have e0 : (⟨#[]⟩ : ByteArray).size = 0 := rfl; omega)
set_option maxHeartbeats 4000000 in
theorem iplist_e1 (s : ByteArray) (hs : s.size ≤ 4096) (a : Bool) (cp : Cap) (M : Det Try.prog 36 [.o (.slc 0 0 0 cp)] [.row a true []] (vB false) [.row a true []]) (y : Int × ByteArray) (ys : List (Int × ByteArray)) (h40 : s.size ≤ 40) (h1 : optP (s.size + 1) s [] = some (y :: ys)) (al : Det Try.prog 27 [] [] (vB true) []) : Det Try.prog 13 [.o (.slc 0 0 0 cp), .o (.str s)] [.row a true []] (vB true) [.row a true []] := by
  have OD : Det Try.prog 37 [.o (.slc 0 0 0 cp)] [.row a true []] (.t [.o (.str ⟨#[]⟩), .o (.int .i64 0)]) [.row a true []] := by
    have := opts_det a true [] 0 cp [] rfl rfl ⟨by decide, by simp, by simp, by decide⟩
    rwa [show opts10 [] = ⟨#[]⟩ by decide +kernel, show opts10e [] = 0 by decide] at this
  have OE : Det Try.prog 39 [.o (.str ⟨#[]⟩)] [] (.t [.o (.nils), .o (.int .i64 0)]) [] := options_can ⟨#[]⟩ (by decide) _ read_nil
  have SE := same_en a cp
  have hy := read_ok h40 h1
  have hyl := hy.2.1.1
  simp only [List.length_cons] at hyl
  have hyz := hy.2.2.1
  have hym := opts_mod hy.1
  have O1 : Det Try.prog 39 [.o (.str s)] [] (.t [.o (.slc 0 0 (ys.length + 1) (.upto 2)), .o (.int .i64 0)]) [.row true true (optSV (y :: ys))] := options_can s h40 _ h1
  have OD1 : Det Try.prog 37 [.o (.slc 0 0 (ys.length + 1) (.upto 2))] [.row true true (optSV (y :: ys))] (.t [.o (.str (opts10 (y :: ys))), .o (.int .i64 0)]) [.row true true (optSV (y :: ys))] := by
    have := opts_det true true (y :: ys) (ys.length + 1) (.upto 2) (optSV (y :: ys)) rfl rfl hy.2.1
    rwa [hy.1] at this
  have O2 : Det Try.prog 39 [.o (.str (opts10 (y :: ys)))] [] (.t [.o (.slc 0 0 (ys.length + 1) (.upto 2)), .o (.int .i64 0)]) [.row true true (optSV (y :: ys))] := options_can (opts10 (y :: ys)) hym.2 _ hy.2.2.2
  have S1 : Det Try.prog 41 [.o (.slc 0 0 (ys.length + 1) (.upto 2)), .o (.slc 1 0 (ys.length + 1) (.upto 2))] [.row true true (optSV (y :: ys)), .row true true (optSV (y :: ys))] (vB true) [.row true true (optSV (y :: ys)), .row true true (optSV (y :: ys))] := by
    have := same_can true true (y :: ys) (y :: ys) (.upto 2) (.upto 2) (by simp only [List.length_cons]; omega) (by simp only [List.length_cons]; omega)
    rwa [decide_eq_true (rfl : (y :: ys) = (y :: ys))] at this
  refine can_of_W known mix Try.func13 (by kernel_rfl) ok_law10_IpList (Nat.le_of_ble_eq_true rfl) ?_
  repeat' ((conv => whnf); first
    | ((with_reducible refine Look.mk ?_); refine ⟨_, rfl, ?_⟩)
    | ((with_reducible refine LookN.zeros ?_))
    | ((with_reducible refine LookN.bytes ?_ ?_); (simp; done))
    | ((with_reducible refine BytesW.bytes ?_))
    | ((with_reducible refine Look.byte ?_ ?_); omega)
    | ((with_reducible refine Look.setb ?_ ?_ ?_); exact bv8_bd _; omega)
    | ((with_reducible refine LookN.setb ?_ ?_ ?_); exact bv8_bd _; omega)
    | ((with_reducible refine LookN.mk ?_); refine ⟨_, rfl, ?_⟩)
    | ((with_reducible refine Need.mk ?_ ?_); first | ((with_reducible refine needB ?_); kernel_rfl) | with_reducible rfl | omega | (with_reducible refine ⟨rfl, ?_⟩; focus omega) | (simp only [ByteArray.size_append, size_lit, List.size_toArray, List.length_cons, List.length_nil, Sp.ofB_size, ByteArray.size_extract]; omega) | exact rfl | trivial | exact Nat.le_of_ble_eq_true rfl | (exact ⟨rfl, by omega⟩) | (intro h; first | rfl | cases h) | (simp only [lenS_text, lenS_setN, lenS_zeros]; omega))
    | ((with_reducible refine BytesW.mk ?_); refine ⟨_, rfl, ?_⟩)
    | (with_reducible refine CallW.det (M) ?_)
    | (with_reducible refine CallW.det (OD) ?_)
    | (with_reducible refine CallW.det (OE) ?_)
    | (with_reducible refine CallW.det (SE) ?_)
    | (with_reducible refine CallW.det (O1) ?_)
    | (with_reducible refine CallW.det (OD1) ?_)
    | (with_reducible refine CallW.det (O2) ?_)
    | (with_reducible refine CallW.det (S1) ?_)
    | (with_reducible refine CallW.det (al) ?_)
    | ((with_reducible refine Test.tmodEqT ?_ ?_ ?_); omega; focus first | omega | assumption)
    | ((with_reducible refine Test.tmodEqF ?_ ?_ ?_); omega; focus first | omega | assumption)
    | ((with_reducible refine Test.tmodNeT ?_ ?_ ?_); omega; focus first | omega | assumption)
    | ((with_reducible refine Test.tmodNeF ?_ ?_ ?_); omega; focus first | omega | assumption)
    | ((with_reducible refine Test.tmodEq ?_ (fun h => ?_) (fun h => ?_)); omega)
    | ((with_reducible refine Test.tmodNe ?_ (fun h => ?_) (fun h => ?_)); omega)
    | ((with_reducible refine Test.notT ?_ ?_); focus assumption)
    | ((with_reducible refine Test.notF ?_ ?_); focus assumption)
    | (with_reducible refine Test.notIe (fun h => ?_) (fun h => ?_))
    | (with_reducible refine Test.notD (fun h => ?_) (fun h => ?_))
    | ((with_reducible refine Test.empty (fun h => ?_) (fun h => ?_)))
    | (with_reducible refine Test.tt ?_)
    | (with_reducible refine Test.ff ?_)
    | ((with_reducible refine Test.dt ?_ ?_); omega)
    | ((with_reducible refine Test.df ?_ ?_); omega)
    | (with_reducible refine Test.d (fun h => ?_) (fun h => ?_))
    | ((with_reducible refine Test.ieT ?_ ?_); omega)
    | ((with_reducible refine Test.ieF ?_ ?_); omega)
    | ((with_reducible refine Test.neT ?_ ?_); omega)
    | ((with_reducible refine Test.neF ?_ ?_); omega)
    | (with_reducible refine Test.ie (fun h => ?_) (fun h => ?_))
    | (with_reducible refine Test.ne (fun h => ?_) (fun h => ?_))
    | ((with_reducible refine Test.b ?_ ?_); (focus first | assumption | (simp [negB]; done) | exact rfl))
    | ((with_reducible refine Test.nb ?_ ?_); (focus first | assumption | (simp [negB]; done) | exact rfl))
    | (with_reducible refine Test.notS (fun h => ?_) (fun h => ?_))
    | (with_reducible refine Test.mk (fun h => ?_) (fun h => ?_))
    | ((with_reducible refine Arith.tdiv ?_ ?_); omega)
    | (with_reducible refine Arith.bv8 ?_)
    | (with_reducible refine Arith.bv16 ?_)
    | (with_reducible refine Arith.bv32 ?_)
    | (with_reducible refine Arith.bv64 ?_)
    | ((with_reducible refine Arith.i64 ?_ ?_); omega)
    | ((with_reducible refine Arith.u64 ?_ ?_); omega)
    | ((with_reducible refine Arith.u32 ?_ ?_); omega)
    | ((with_reducible refine Arith.u16 ?_ ?_); omega)
    | ((with_reducible refine Arith.u8 ?_ ?_); omega)
    | ((with_reducible refine Arith.i32 ?_ ?_); omega)
    | (with_reducible refine Arith.mk ?_)
    | (with_reducible refine Ends.mk ?_))
  all_goals first | exact ⟨rfl, rfl⟩ | (exact absurd h (by decide)) | (exact absurd (by decide) h) | (exfalso; rw [decide_eq_true (by omega)] at h; exact absurd h (by decide)) | (exfalso; rw [decide_eq_false (by omega)] at h; exact absurd h (by decide)) | (exfalso; have e0 : (⟨#[]⟩ : ByteArray).size = 0 := rfl; omega)
set_option maxHeartbeats 4000000 in
theorem iplist_cf (s : ByteArray) (hs : s.size ≤ 4096) (a : Bool) (x : Int × ByteArray) (xs : List (Int × ByteArray)) (cp : Cap) (hin : optIn (x :: xs)) (he : opts10e (x :: xs) = 0) (M : Det Try.prog 36 [.o (.slc 0 0 (xs.length + 1) cp)] [.row a true (optSV (x :: xs))] (vB false) [.row a true (optSV (x :: xs))]) (h40 : 40 < s.size) (al : Det Try.prog 27 [] [] (vB true) []) : Det Try.prog 13 [.o (.slc 0 0 (xs.length + 1) cp), .o (.str s)] [.row a true (optSV (x :: xs))] (vB true) [.row a true (optSV (x :: xs))] := by
  have hb := opts_mod he
  have hl := hin.1
  simp only [List.length_cons] at hl
  have OD : Det Try.prog 37 [.o (.slc 0 0 (xs.length + 1) cp)] [.row a true (optSV (x :: xs))] (.t [.o (.str (opts10 (x :: xs))), .o (.int .i64 0)]) [.row a true (optSV (x :: xs))] := by
    have := opts_det a true (x :: xs) (xs.length + 1) cp (optSV (x :: xs)) rfl rfl hin
    rwa [he] at this
  have OB : Det Try.prog 39 [.o (.str (opts10 (x :: xs)))] [] (.t [.o (.slc 0 0 (xs.length + 1) (.upto 2)), .o (.int .i64 0)]) [.row true true (optSV (x :: xs))] := options_can (opts10 (x :: xs)) hb.2 _ (opts_read he hin.2.1)
  have SB : Det Try.prog 41 [.o (.slc 0 0 (xs.length + 1) cp), .o (.slc 1 0 (xs.length + 1) (.upto 2))] [.row a true (optSV (x :: xs)), .row true true (optSV (x :: xs))] (vB true) [.row a true (optSV (x :: xs)), .row true true (optSV (x :: xs))] := by
    have := same_can a true (x :: xs) (x :: xs) cp (.upto 2) (by simp only [List.length_cons]; omega) (by simp only [List.length_cons]; omega)
    rwa [decide_eq_true (rfl : (x :: xs) = (x :: xs))] at this
  refine can_of_W known mix Try.func13 (by kernel_rfl) ok_law10_IpList (Nat.le_of_ble_eq_true rfl) ?_
  repeat' ((conv => whnf); first
    | ((with_reducible refine Look.mk ?_); refine ⟨_, rfl, ?_⟩)
    | ((with_reducible refine LookN.zeros ?_))
    | ((with_reducible refine LookN.bytes ?_ ?_); (simp; done))
    | ((with_reducible refine BytesW.bytes ?_))
    | ((with_reducible refine Look.byte ?_ ?_); omega)
    | ((with_reducible refine Look.setb ?_ ?_ ?_); exact bv8_bd _; omega)
    | ((with_reducible refine LookN.setb ?_ ?_ ?_); exact bv8_bd _; omega)
    | ((with_reducible refine LookN.mk ?_); refine ⟨_, rfl, ?_⟩)
    | ((with_reducible refine Need.mk ?_ ?_); first | ((with_reducible refine needB ?_); kernel_rfl) | with_reducible rfl | omega | (with_reducible refine ⟨rfl, ?_⟩; focus omega) | (simp only [ByteArray.size_append, size_lit, List.size_toArray, List.length_cons, List.length_nil, Sp.ofB_size, ByteArray.size_extract]; omega) | exact rfl | trivial | exact Nat.le_of_ble_eq_true rfl | (exact ⟨rfl, by omega⟩) | (intro h; first | rfl | cases h) | (simp only [lenS_text, lenS_setN, lenS_zeros]; omega))
    | ((with_reducible refine BytesW.mk ?_); refine ⟨_, rfl, ?_⟩)
    | (with_reducible refine CallW.det (M) ?_)
    | (with_reducible refine CallW.det (OD) ?_)
    | (with_reducible refine CallW.det (OB) ?_)
    | (with_reducible refine CallW.det (SB) ?_)
    | (with_reducible refine CallW.det (options_far s h40 (by omega)) ?_)
    | (with_reducible refine CallW.det (al) ?_)
    | ((with_reducible refine Test.tmodEqT ?_ ?_ ?_); omega; focus first | omega | assumption)
    | ((with_reducible refine Test.tmodEqF ?_ ?_ ?_); omega; focus first | omega | assumption)
    | ((with_reducible refine Test.tmodNeT ?_ ?_ ?_); omega; focus first | omega | assumption)
    | ((with_reducible refine Test.tmodNeF ?_ ?_ ?_); omega; focus first | omega | assumption)
    | ((with_reducible refine Test.tmodEq ?_ (fun h => ?_) (fun h => ?_)); omega)
    | ((with_reducible refine Test.tmodNe ?_ (fun h => ?_) (fun h => ?_)); omega)
    | ((with_reducible refine Test.notT ?_ ?_); focus assumption)
    | ((with_reducible refine Test.notF ?_ ?_); focus assumption)
    | (with_reducible refine Test.notIe (fun h => ?_) (fun h => ?_))
    | (with_reducible refine Test.notD (fun h => ?_) (fun h => ?_))
    | ((with_reducible refine Test.empty (fun h => ?_) (fun h => ?_)))
    | (with_reducible refine Test.tt ?_)
    | (with_reducible refine Test.ff ?_)
    | ((with_reducible refine Test.dt ?_ ?_); omega)
    | ((with_reducible refine Test.df ?_ ?_); omega)
    | (with_reducible refine Test.d (fun h => ?_) (fun h => ?_))
    | ((with_reducible refine Test.ieT ?_ ?_); omega)
    | ((with_reducible refine Test.ieF ?_ ?_); omega)
    | ((with_reducible refine Test.neT ?_ ?_); omega)
    | ((with_reducible refine Test.neF ?_ ?_); omega)
    | (with_reducible refine Test.ie (fun h => ?_) (fun h => ?_))
    | (with_reducible refine Test.ne (fun h => ?_) (fun h => ?_))
    | ((with_reducible refine Test.b ?_ ?_); (focus first | assumption | (simp [negB]; done) | exact rfl))
    | ((with_reducible refine Test.nb ?_ ?_); (focus first | assumption | (simp [negB]; done) | exact rfl))
    | (with_reducible refine Test.notS (fun h => ?_) (fun h => ?_))
    | (with_reducible refine Test.mk (fun h => ?_) (fun h => ?_))
    | ((with_reducible refine Arith.tdiv ?_ ?_); omega)
    | (with_reducible refine Arith.bv8 ?_)
    | (with_reducible refine Arith.bv16 ?_)
    | (with_reducible refine Arith.bv32 ?_)
    | (with_reducible refine Arith.bv64 ?_)
    | ((with_reducible refine Arith.i64 ?_ ?_); omega)
    | ((with_reducible refine Arith.u64 ?_ ?_); omega)
    | ((with_reducible refine Arith.u32 ?_ ?_); omega)
    | ((with_reducible refine Arith.u16 ?_ ?_); omega)
    | ((with_reducible refine Arith.u8 ?_ ?_); omega)
    | ((with_reducible refine Arith.i32 ?_ ?_); omega)
    | (with_reducible refine Arith.mk ?_)
    | (with_reducible refine Ends.mk ?_))
  all_goals first | exact ⟨rfl, rfl⟩ | (exact absurd h (by decide)) | (exact absurd (by decide) h) | (exfalso; rw [decide_eq_true (by omega)] at h; exact absurd h (by decide)) | (exfalso; rw [decide_eq_false (by omega)] at h; exact absurd h (by decide)) | (exfalso; have e0 : (⟨#[]⟩ : ByteArray).size = 0 := rfl; omega)
set_option maxHeartbeats 4000000 in
theorem iplist_cx (s : ByteArray) (hs : s.size ≤ 4096) (a : Bool) (x : Int × ByteArray) (xs : List (Int × ByteArray)) (cp : Cap) (hin : optIn (x :: xs)) (he : opts10e (x :: xs) = 0) (M : Det Try.prog 36 [.o (.slc 0 0 (xs.length + 1) cp)] [.row a true (optSV (x :: xs))] (vB false) [.row a true (optSV (x :: xs))]) (h40 : s.size ≤ 40) (h1 : optP (s.size + 1) s [] = none) (al : Det Try.prog 27 [] [] (vB true) []) : Det Try.prog 13 [.o (.slc 0 0 (xs.length + 1) cp), .o (.str s)] [.row a true (optSV (x :: xs))] (vB true) [.row a true (optSV (x :: xs))] := by
  have hb := opts_mod he
  have hl := hin.1
  simp only [List.length_cons] at hl
  have OD : Det Try.prog 37 [.o (.slc 0 0 (xs.length + 1) cp)] [.row a true (optSV (x :: xs))] (.t [.o (.str (opts10 (x :: xs))), .o (.int .i64 0)]) [.row a true (optSV (x :: xs))] := by
    have := opts_det a true (x :: xs) (xs.length + 1) cp (optSV (x :: xs)) rfl rfl hin
    rwa [he] at this
  have OB : Det Try.prog 39 [.o (.str (opts10 (x :: xs)))] [] (.t [.o (.slc 0 0 (xs.length + 1) (.upto 2)), .o (.int .i64 0)]) [.row true true (optSV (x :: xs))] := options_can (opts10 (x :: xs)) hb.2 _ (opts_read he hin.2.1)
  have SB : Det Try.prog 41 [.o (.slc 0 0 (xs.length + 1) cp), .o (.slc 1 0 (xs.length + 1) (.upto 2))] [.row a true (optSV (x :: xs)), .row true true (optSV (x :: xs))] (vB true) [.row a true (optSV (x :: xs)), .row true true (optSV (x :: xs))] := by
    have := same_can a true (x :: xs) (x :: xs) cp (.upto 2) (by simp only [List.length_cons]; omega) (by simp only [List.length_cons]; omega)
    rwa [decide_eq_true (rfl : (x :: xs) = (x :: xs))] at this
  have OX : Det Try.prog 39 [.o (.str s)] [] (.t [.o .nils, .o (.int .i64 102)]) [] := options_can s h40 _ h1
  refine can_of_W known mix Try.func13 (by kernel_rfl) ok_law10_IpList (Nat.le_of_ble_eq_true rfl) ?_
  repeat' ((conv => whnf); first
    | ((with_reducible refine Look.mk ?_); refine ⟨_, rfl, ?_⟩)
    | ((with_reducible refine LookN.zeros ?_))
    | ((with_reducible refine LookN.bytes ?_ ?_); (simp; done))
    | ((with_reducible refine BytesW.bytes ?_))
    | ((with_reducible refine Look.byte ?_ ?_); omega)
    | ((with_reducible refine Look.setb ?_ ?_ ?_); exact bv8_bd _; omega)
    | ((with_reducible refine LookN.setb ?_ ?_ ?_); exact bv8_bd _; omega)
    | ((with_reducible refine LookN.mk ?_); refine ⟨_, rfl, ?_⟩)
    | ((with_reducible refine Need.mk ?_ ?_); first | ((with_reducible refine needB ?_); kernel_rfl) | with_reducible rfl | omega | (with_reducible refine ⟨rfl, ?_⟩; focus omega) | (simp only [ByteArray.size_append, size_lit, List.size_toArray, List.length_cons, List.length_nil, Sp.ofB_size, ByteArray.size_extract]; omega) | exact rfl | trivial | exact Nat.le_of_ble_eq_true rfl | (exact ⟨rfl, by omega⟩) | (intro h; first | rfl | cases h) | (simp only [lenS_text, lenS_setN, lenS_zeros]; omega))
    | ((with_reducible refine BytesW.mk ?_); refine ⟨_, rfl, ?_⟩)
    | (with_reducible refine CallW.det (M) ?_)
    | (with_reducible refine CallW.det (OD) ?_)
    | (with_reducible refine CallW.det (OB) ?_)
    | (with_reducible refine CallW.det (SB) ?_)
    | (with_reducible refine CallW.det (OX) ?_)
    | (with_reducible refine CallW.det (al) ?_)
    | ((with_reducible refine Test.tmodEqT ?_ ?_ ?_); omega; focus first | omega | assumption)
    | ((with_reducible refine Test.tmodEqF ?_ ?_ ?_); omega; focus first | omega | assumption)
    | ((with_reducible refine Test.tmodNeT ?_ ?_ ?_); omega; focus first | omega | assumption)
    | ((with_reducible refine Test.tmodNeF ?_ ?_ ?_); omega; focus first | omega | assumption)
    | ((with_reducible refine Test.tmodEq ?_ (fun h => ?_) (fun h => ?_)); omega)
    | ((with_reducible refine Test.tmodNe ?_ (fun h => ?_) (fun h => ?_)); omega)
    | ((with_reducible refine Test.notT ?_ ?_); focus assumption)
    | ((with_reducible refine Test.notF ?_ ?_); focus assumption)
    | (with_reducible refine Test.notIe (fun h => ?_) (fun h => ?_))
    | (with_reducible refine Test.notD (fun h => ?_) (fun h => ?_))
    | ((with_reducible refine Test.empty (fun h => ?_) (fun h => ?_)))
    | (with_reducible refine Test.tt ?_)
    | (with_reducible refine Test.ff ?_)
    | ((with_reducible refine Test.dt ?_ ?_); omega)
    | ((with_reducible refine Test.df ?_ ?_); omega)
    | (with_reducible refine Test.d (fun h => ?_) (fun h => ?_))
    | ((with_reducible refine Test.ieT ?_ ?_); omega)
    | ((with_reducible refine Test.ieF ?_ ?_); omega)
    | ((with_reducible refine Test.neT ?_ ?_); omega)
    | ((with_reducible refine Test.neF ?_ ?_); omega)
    | (with_reducible refine Test.ie (fun h => ?_) (fun h => ?_))
    | (with_reducible refine Test.ne (fun h => ?_) (fun h => ?_))
    | ((with_reducible refine Test.b ?_ ?_); (focus first | assumption | (simp [negB]; done) | exact rfl))
    | ((with_reducible refine Test.nb ?_ ?_); (focus first | assumption | (simp [negB]; done) | exact rfl))
    | (with_reducible refine Test.notS (fun h => ?_) (fun h => ?_))
    | (with_reducible refine Test.mk (fun h => ?_) (fun h => ?_))
    | ((with_reducible refine Arith.tdiv ?_ ?_); omega)
    | (with_reducible refine Arith.bv8 ?_)
    | (with_reducible refine Arith.bv16 ?_)
    | (with_reducible refine Arith.bv32 ?_)
    | (with_reducible refine Arith.bv64 ?_)
    | ((with_reducible refine Arith.i64 ?_ ?_); omega)
    | ((with_reducible refine Arith.u64 ?_ ?_); omega)
    | ((with_reducible refine Arith.u32 ?_ ?_); omega)
    | ((with_reducible refine Arith.u16 ?_ ?_); omega)
    | ((with_reducible refine Arith.u8 ?_ ?_); omega)
    | ((with_reducible refine Arith.i32 ?_ ?_); omega)
    | (with_reducible refine Arith.mk ?_)
    | (with_reducible refine Ends.mk ?_))
  all_goals first | exact ⟨rfl, rfl⟩ | (exact absurd h (by decide)) | (exact absurd (by decide) h) | (exfalso; rw [decide_eq_true (by omega)] at h; exact absurd h (by decide)) | (exfalso; rw [decide_eq_false (by omega)] at h; exact absurd h (by decide)) | (exfalso; have e0 : (⟨#[]⟩ : ByteArray).size = 0 := rfl; omega)
set_option maxHeartbeats 4000000 in
theorem iplist_c0 (s : ByteArray) (hs : s.size ≤ 4096) (a : Bool) (x : Int × ByteArray) (xs : List (Int × ByteArray)) (cp : Cap) (hin : optIn (x :: xs)) (he : opts10e (x :: xs) = 0) (M : Det Try.prog 36 [.o (.slc 0 0 (xs.length + 1) cp)] [.row a true (optSV (x :: xs))] (vB false) [.row a true (optSV (x :: xs))]) (h40 : s.size ≤ 40) (h1 : optP (s.size + 1) s [] = some []) (al : Det Try.prog 27 [] [] (vB true) []) : Det Try.prog 13 [.o (.slc 0 0 (xs.length + 1) cp), .o (.str s)] [.row a true (optSV (x :: xs))] (vB true) [.row a true (optSV (x :: xs))] := by
  have hb := opts_mod he
  have hl := hin.1
  simp only [List.length_cons] at hl
  have OD : Det Try.prog 37 [.o (.slc 0 0 (xs.length + 1) cp)] [.row a true (optSV (x :: xs))] (.t [.o (.str (opts10 (x :: xs))), .o (.int .i64 0)]) [.row a true (optSV (x :: xs))] := by
    have := opts_det a true (x :: xs) (xs.length + 1) cp (optSV (x :: xs)) rfl rfl hin
    rwa [he] at this
  have OB : Det Try.prog 39 [.o (.str (opts10 (x :: xs)))] [] (.t [.o (.slc 0 0 (xs.length + 1) (.upto 2)), .o (.int .i64 0)]) [.row true true (optSV (x :: xs))] := options_can (opts10 (x :: xs)) hb.2 _ (opts_read he hin.2.1)
  have SB : Det Try.prog 41 [.o (.slc 0 0 (xs.length + 1) cp), .o (.slc 1 0 (xs.length + 1) (.upto 2))] [.row a true (optSV (x :: xs)), .row true true (optSV (x :: xs))] (vB true) [.row a true (optSV (x :: xs)), .row true true (optSV (x :: xs))] := by
    have := same_can a true (x :: xs) (x :: xs) cp (.upto 2) (by simp only [List.length_cons]; omega) (by simp only [List.length_cons]; omega)
    rwa [decide_eq_true (rfl : (x :: xs) = (x :: xs))] at this
  have O0 : Det Try.prog 39 [.o (.str s)] [] (.t [.o (.nils), .o (.int .i64 0)]) [] := options_can s h40 _ h1
  have OE2 : Det Try.prog 39 [.o (.str ⟨#[]⟩)] [] (.t [.o (.nils), .o (.int .i64 0)]) [] := options_can ⟨#[]⟩ (by decide) _ read_nil
  have S02 : Det Try.prog 41 [.o .nils, .o .nils] [] (vB true) [] := same_nn
  refine can_of_W known mix Try.func13 (by kernel_rfl) ok_law10_IpList (Nat.le_of_ble_eq_true rfl) ?_
  repeat' ((conv => whnf); first
    | ((with_reducible refine Look.mk ?_); refine ⟨_, rfl, ?_⟩)
    | ((with_reducible refine LookN.zeros ?_))
    | ((with_reducible refine LookN.bytes ?_ ?_); (simp; done))
    | ((with_reducible refine BytesW.bytes ?_))
    | ((with_reducible refine Look.byte ?_ ?_); omega)
    | ((with_reducible refine Look.setb ?_ ?_ ?_); exact bv8_bd _; omega)
    | ((with_reducible refine LookN.setb ?_ ?_ ?_); exact bv8_bd _; omega)
    | ((with_reducible refine LookN.mk ?_); refine ⟨_, rfl, ?_⟩)
    | ((with_reducible refine Need.mk ?_ ?_); first | ((with_reducible refine needB ?_); kernel_rfl) | with_reducible rfl | omega | (with_reducible refine ⟨rfl, ?_⟩; focus omega) | (simp only [ByteArray.size_append, size_lit, List.size_toArray, List.length_cons, List.length_nil, Sp.ofB_size, ByteArray.size_extract]; omega) | exact rfl | trivial | exact Nat.le_of_ble_eq_true rfl | (exact ⟨rfl, by omega⟩) | (intro h; first | rfl | cases h) | (simp only [lenS_text, lenS_setN, lenS_zeros]; omega))
    | ((with_reducible refine BytesW.mk ?_); refine ⟨_, rfl, ?_⟩)
    | (with_reducible refine CallW.det (M) ?_)
    | (with_reducible refine CallW.det (OD) ?_)
    | (with_reducible refine CallW.det (OB) ?_)
    | (with_reducible refine CallW.det (SB) ?_)
    | (with_reducible refine CallW.det (O0) ?_)
    | (with_reducible refine CallW.det (opts_nil) ?_)
    | (with_reducible refine CallW.det (OE2) ?_)
    | (with_reducible refine CallW.det (S02) ?_)
    | (with_reducible refine CallW.det (al) ?_)
    | ((with_reducible refine Test.tmodEqT ?_ ?_ ?_); omega; focus first | omega | assumption)
    | ((with_reducible refine Test.tmodEqF ?_ ?_ ?_); omega; focus first | omega | assumption)
    | ((with_reducible refine Test.tmodNeT ?_ ?_ ?_); omega; focus first | omega | assumption)
    | ((with_reducible refine Test.tmodNeF ?_ ?_ ?_); omega; focus first | omega | assumption)
    | ((with_reducible refine Test.tmodEq ?_ (fun h => ?_) (fun h => ?_)); omega)
    | ((with_reducible refine Test.tmodNe ?_ (fun h => ?_) (fun h => ?_)); omega)
    | ((with_reducible refine Test.notT ?_ ?_); focus assumption)
    | ((with_reducible refine Test.notF ?_ ?_); focus assumption)
    | (with_reducible refine Test.notIe (fun h => ?_) (fun h => ?_))
    | (with_reducible refine Test.notD (fun h => ?_) (fun h => ?_))
    | ((with_reducible refine Test.empty (fun h => ?_) (fun h => ?_)))
    | (with_reducible refine Test.tt ?_)
    | (with_reducible refine Test.ff ?_)
    | ((with_reducible refine Test.dt ?_ ?_); omega)
    | ((with_reducible refine Test.df ?_ ?_); omega)
    | (with_reducible refine Test.d (fun h => ?_) (fun h => ?_))
    | ((with_reducible refine Test.ieT ?_ ?_); omega)
    | ((with_reducible refine Test.ieF ?_ ?_); omega)
    | ((with_reducible refine Test.neT ?_ ?_); omega)
    | ((with_reducible refine Test.neF ?_ ?_); omega)
    | (with_reducible refine Test.ie (fun h => ?_) (fun h => ?_))
    | (with_reducible refine Test.ne (fun h => ?_) (fun h => ?_))
    | ((with_reducible refine Test.b ?_ ?_); (focus first | assumption | (simp [negB]; done) | exact rfl))
    | ((with_reducible refine Test.nb ?_ ?_); (focus first | assumption | (simp [negB]; done) | exact rfl))
    | (with_reducible refine Test.notS (fun h => ?_) (fun h => ?_))
    | (with_reducible refine Test.mk (fun h => ?_) (fun h => ?_))
    | ((with_reducible refine Arith.tdiv ?_ ?_); omega)
    | (with_reducible refine Arith.bv8 ?_)
    | (with_reducible refine Arith.bv16 ?_)
    | (with_reducible refine Arith.bv32 ?_)
    | (with_reducible refine Arith.bv64 ?_)
    | ((with_reducible refine Arith.i64 ?_ ?_); omega)
    | ((with_reducible refine Arith.u64 ?_ ?_); omega)
    | ((with_reducible refine Arith.u32 ?_ ?_); omega)
    | ((with_reducible refine Arith.u16 ?_ ?_); omega)
    | ((with_reducible refine Arith.u8 ?_ ?_); omega)
    | ((with_reducible refine Arith.i32 ?_ ?_); omega)
    | (with_reducible refine Arith.mk ?_)
    | (with_reducible refine Ends.mk ?_))
  all_goals first | exact ⟨rfl, rfl⟩ | (exact absurd h (by decide)) | (exact absurd (by decide) h) | (exfalso; rw [decide_eq_true (by omega)] at h; exact absurd h (by decide)) | (exfalso; rw [decide_eq_false (by omega)] at h; exact absurd h (by decide)) | (exfalso; have e0 : (⟨#[]⟩ : ByteArray).size = 0 := rfl; omega)
set_option maxHeartbeats 4000000 in
theorem iplist_c1 (s : ByteArray) (hs : s.size ≤ 4096) (a : Bool) (x : Int × ByteArray) (xs : List (Int × ByteArray)) (cp : Cap) (hin : optIn (x :: xs)) (he : opts10e (x :: xs) = 0) (M : Det Try.prog 36 [.o (.slc 0 0 (xs.length + 1) cp)] [.row a true (optSV (x :: xs))] (vB false) [.row a true (optSV (x :: xs))]) (y : Int × ByteArray) (ys : List (Int × ByteArray)) (h40 : s.size ≤ 40) (h1 : optP (s.size + 1) s [] = some (y :: ys)) (al : Det Try.prog 27 [] [] (vB true) []) : Det Try.prog 13 [.o (.slc 0 0 (xs.length + 1) cp), .o (.str s)] [.row a true (optSV (x :: xs))] (vB true) [.row a true (optSV (x :: xs))] := by
  have hb := opts_mod he
  have hl := hin.1
  simp only [List.length_cons] at hl
  have OD : Det Try.prog 37 [.o (.slc 0 0 (xs.length + 1) cp)] [.row a true (optSV (x :: xs))] (.t [.o (.str (opts10 (x :: xs))), .o (.int .i64 0)]) [.row a true (optSV (x :: xs))] := by
    have := opts_det a true (x :: xs) (xs.length + 1) cp (optSV (x :: xs)) rfl rfl hin
    rwa [he] at this
  have OB : Det Try.prog 39 [.o (.str (opts10 (x :: xs)))] [] (.t [.o (.slc 0 0 (xs.length + 1) (.upto 2)), .o (.int .i64 0)]) [.row true true (optSV (x :: xs))] := options_can (opts10 (x :: xs)) hb.2 _ (opts_read he hin.2.1)
  have SB : Det Try.prog 41 [.o (.slc 0 0 (xs.length + 1) cp), .o (.slc 1 0 (xs.length + 1) (.upto 2))] [.row a true (optSV (x :: xs)), .row true true (optSV (x :: xs))] (vB true) [.row a true (optSV (x :: xs)), .row true true (optSV (x :: xs))] := by
    have := same_can a true (x :: xs) (x :: xs) cp (.upto 2) (by simp only [List.length_cons]; omega) (by simp only [List.length_cons]; omega)
    rwa [decide_eq_true (rfl : (x :: xs) = (x :: xs))] at this
  have hy := read_ok h40 h1
  have hyl := hy.2.1.1
  simp only [List.length_cons] at hyl
  have hyz := hy.2.2.1
  have hym := opts_mod hy.1
  have O1 : Det Try.prog 39 [.o (.str s)] [] (.t [.o (.slc 0 0 (ys.length + 1) (.upto 2)), .o (.int .i64 0)]) [.row true true (optSV (y :: ys))] := options_can s h40 _ h1
  have OD1 : Det Try.prog 37 [.o (.slc 0 0 (ys.length + 1) (.upto 2))] [.row true true (optSV (y :: ys))] (.t [.o (.str (opts10 (y :: ys))), .o (.int .i64 0)]) [.row true true (optSV (y :: ys))] := by
    have := opts_det true true (y :: ys) (ys.length + 1) (.upto 2) (optSV (y :: ys)) rfl rfl hy.2.1
    rwa [hy.1] at this
  have O2 : Det Try.prog 39 [.o (.str (opts10 (y :: ys)))] [] (.t [.o (.slc 0 0 (ys.length + 1) (.upto 2)), .o (.int .i64 0)]) [.row true true (optSV (y :: ys))] := options_can (opts10 (y :: ys)) hym.2 _ hy.2.2.2
  have S1 : Det Try.prog 41 [.o (.slc 0 0 (ys.length + 1) (.upto 2)), .o (.slc 1 0 (ys.length + 1) (.upto 2))] [.row true true (optSV (y :: ys)), .row true true (optSV (y :: ys))] (vB true) [.row true true (optSV (y :: ys)), .row true true (optSV (y :: ys))] := by
    have := same_can true true (y :: ys) (y :: ys) (.upto 2) (.upto 2) (by simp only [List.length_cons]; omega) (by simp only [List.length_cons]; omega)
    rwa [decide_eq_true (rfl : (y :: ys) = (y :: ys))] at this
  refine can_of_W known mix Try.func13 (by kernel_rfl) ok_law10_IpList (Nat.le_of_ble_eq_true rfl) ?_
  repeat' ((conv => whnf); first
    | ((with_reducible refine Look.mk ?_); refine ⟨_, rfl, ?_⟩)
    | ((with_reducible refine LookN.zeros ?_))
    | ((with_reducible refine LookN.bytes ?_ ?_); (simp; done))
    | ((with_reducible refine BytesW.bytes ?_))
    | ((with_reducible refine Look.byte ?_ ?_); omega)
    | ((with_reducible refine Look.setb ?_ ?_ ?_); exact bv8_bd _; omega)
    | ((with_reducible refine LookN.setb ?_ ?_ ?_); exact bv8_bd _; omega)
    | ((with_reducible refine LookN.mk ?_); refine ⟨_, rfl, ?_⟩)
    | ((with_reducible refine Need.mk ?_ ?_); first | ((with_reducible refine needB ?_); kernel_rfl) | with_reducible rfl | omega | (with_reducible refine ⟨rfl, ?_⟩; focus omega) | (simp only [ByteArray.size_append, size_lit, List.size_toArray, List.length_cons, List.length_nil, Sp.ofB_size, ByteArray.size_extract]; omega) | exact rfl | trivial | exact Nat.le_of_ble_eq_true rfl | (exact ⟨rfl, by omega⟩) | (intro h; first | rfl | cases h) | (simp only [lenS_text, lenS_setN, lenS_zeros]; omega))
    | ((with_reducible refine BytesW.mk ?_); refine ⟨_, rfl, ?_⟩)
    | (with_reducible refine CallW.det (M) ?_)
    | (with_reducible refine CallW.det (OD) ?_)
    | (with_reducible refine CallW.det (OB) ?_)
    | (with_reducible refine CallW.det (SB) ?_)
    | (with_reducible refine CallW.det (O1) ?_)
    | (with_reducible refine CallW.det (OD1) ?_)
    | (with_reducible refine CallW.det (O2) ?_)
    | (with_reducible refine CallW.det (S1) ?_)
    | (with_reducible refine CallW.det (al) ?_)
    | ((with_reducible refine Test.tmodEqT ?_ ?_ ?_); omega; focus first | omega | assumption)
    | ((with_reducible refine Test.tmodEqF ?_ ?_ ?_); omega; focus first | omega | assumption)
    | ((with_reducible refine Test.tmodNeT ?_ ?_ ?_); omega; focus first | omega | assumption)
    | ((with_reducible refine Test.tmodNeF ?_ ?_ ?_); omega; focus first | omega | assumption)
    | ((with_reducible refine Test.tmodEq ?_ (fun h => ?_) (fun h => ?_)); omega)
    | ((with_reducible refine Test.tmodNe ?_ (fun h => ?_) (fun h => ?_)); omega)
    | ((with_reducible refine Test.notT ?_ ?_); focus assumption)
    | ((with_reducible refine Test.notF ?_ ?_); focus assumption)
    | (with_reducible refine Test.notIe (fun h => ?_) (fun h => ?_))
    | (with_reducible refine Test.notD (fun h => ?_) (fun h => ?_))
    | ((with_reducible refine Test.empty (fun h => ?_) (fun h => ?_)))
    | (with_reducible refine Test.tt ?_)
    | (with_reducible refine Test.ff ?_)
    | ((with_reducible refine Test.dt ?_ ?_); omega)
    | ((with_reducible refine Test.df ?_ ?_); omega)
    | (with_reducible refine Test.d (fun h => ?_) (fun h => ?_))
    | ((with_reducible refine Test.ieT ?_ ?_); omega)
    | ((with_reducible refine Test.ieF ?_ ?_); omega)
    | ((with_reducible refine Test.neT ?_ ?_); omega)
    | ((with_reducible refine Test.neF ?_ ?_); omega)
    | (with_reducible refine Test.ie (fun h => ?_) (fun h => ?_))
    | (with_reducible refine Test.ne (fun h => ?_) (fun h => ?_))
    | ((with_reducible refine Test.b ?_ ?_); (focus first | assumption | (simp [negB]; done) | exact rfl))
    | ((with_reducible refine Test.nb ?_ ?_); (focus first | assumption | (simp [negB]; done) | exact rfl))
    | (with_reducible refine Test.notS (fun h => ?_) (fun h => ?_))
    | (with_reducible refine Test.mk (fun h => ?_) (fun h => ?_))
    | ((with_reducible refine Arith.tdiv ?_ ?_); omega)
    | (with_reducible refine Arith.bv8 ?_)
    | (with_reducible refine Arith.bv16 ?_)
    | (with_reducible refine Arith.bv32 ?_)
    | (with_reducible refine Arith.bv64 ?_)
    | ((with_reducible refine Arith.i64 ?_ ?_); omega)
    | ((with_reducible refine Arith.u64 ?_ ?_); omega)
    | ((with_reducible refine Arith.u32 ?_ ?_); omega)
    | ((with_reducible refine Arith.u16 ?_ ?_); omega)
    | ((with_reducible refine Arith.u8 ?_ ?_); omega)
    | ((with_reducible refine Arith.i32 ?_ ?_); omega)
    | (with_reducible refine Arith.mk ?_)
    | (with_reducible refine Ends.mk ?_))
  all_goals first | exact ⟨rfl, rfl⟩ | (exact absurd h (by decide)) | (exact absurd (by decide) h) | (exfalso; rw [decide_eq_true (by omega)] at h; exact absurd h (by decide)) | (exfalso; rw [decide_eq_false (by omega)] at h; exact absurd h (by decide)) | (exfalso; have e0 : (⟨#[]⟩ : ByteArray).size = 0 := rfl; omega)
set_option maxHeartbeats 4000000 in
theorem iplist_l (s : ByteArray) (hs : 4096 < s.size) (hs2 : s.size ≤ 140737488351232) (a : Bool) (xs : List (Int × ByteArray)) (cp : Cap) (M : Det Try.prog 36 [.o (.slc 0 0 xs.length cp)] [.row a true (optSV xs)] (vB false) [.row a true (optSV xs)]) (al : Det Try.prog 27 [] [] (vB true) []) : Det Try.prog 13 [.o (.slc 0 0 xs.length cp), .o (.str s)] [.row a true (optSV xs)] (vB true) [.row a true (optSV xs)] := by
  refine can_of_W known mix Try.func13 (by kernel_rfl) ok_law10_IpList (Nat.le_of_ble_eq_true rfl) ?_
  repeat' ((conv => whnf); first
    | ((with_reducible refine Look.mk ?_); refine ⟨_, rfl, ?_⟩)
    | ((with_reducible refine LookN.zeros ?_))
    | ((with_reducible refine LookN.bytes ?_ ?_); (simp; done))
    | ((with_reducible refine BytesW.bytes ?_))
    | ((with_reducible refine Look.byte ?_ ?_); omega)
    | ((with_reducible refine Look.setb ?_ ?_ ?_); exact bv8_bd _; omega)
    | ((with_reducible refine LookN.setb ?_ ?_ ?_); exact bv8_bd _; omega)
    | ((with_reducible refine LookN.mk ?_); refine ⟨_, rfl, ?_⟩)
    | ((with_reducible refine Need.mk ?_ ?_); first | ((with_reducible refine needB ?_); kernel_rfl) | with_reducible rfl | omega | (with_reducible refine ⟨rfl, ?_⟩; focus omega) | (simp only [ByteArray.size_append, size_lit, List.size_toArray, List.length_cons, List.length_nil, Sp.ofB_size, ByteArray.size_extract]; omega) | exact rfl | trivial | exact Nat.le_of_ble_eq_true rfl | (exact ⟨rfl, by omega⟩) | (intro h; first | rfl | cases h) | (simp only [lenS_text, lenS_setN, lenS_zeros]; omega))
    | ((with_reducible refine BytesW.mk ?_); refine ⟨_, rfl, ?_⟩)
    | (with_reducible refine CallW.det (M) ?_)
    | (with_reducible refine CallW.det (al) ?_)
    | ((with_reducible refine Test.tmodEqT ?_ ?_ ?_); omega; focus first | omega | assumption)
    | ((with_reducible refine Test.tmodEqF ?_ ?_ ?_); omega; focus first | omega | assumption)
    | ((with_reducible refine Test.tmodNeT ?_ ?_ ?_); omega; focus first | omega | assumption)
    | ((with_reducible refine Test.tmodNeF ?_ ?_ ?_); omega; focus first | omega | assumption)
    | ((with_reducible refine Test.tmodEq ?_ (fun h => ?_) (fun h => ?_)); omega)
    | ((with_reducible refine Test.tmodNe ?_ (fun h => ?_) (fun h => ?_)); omega)
    | ((with_reducible refine Test.notT ?_ ?_); focus assumption)
    | ((with_reducible refine Test.notF ?_ ?_); focus assumption)
    | (with_reducible refine Test.notIe (fun h => ?_) (fun h => ?_))
    | (with_reducible refine Test.notD (fun h => ?_) (fun h => ?_))
    | ((with_reducible refine Test.empty (fun h => ?_) (fun h => ?_)))
    | (with_reducible refine Test.tt ?_)
    | (with_reducible refine Test.ff ?_)
    | ((with_reducible refine Test.dt ?_ ?_); omega)
    | ((with_reducible refine Test.df ?_ ?_); omega)
    | (with_reducible refine Test.d (fun h => ?_) (fun h => ?_))
    | ((with_reducible refine Test.ieT ?_ ?_); omega)
    | ((with_reducible refine Test.ieF ?_ ?_); omega)
    | ((with_reducible refine Test.neT ?_ ?_); omega)
    | ((with_reducible refine Test.neF ?_ ?_); omega)
    | (with_reducible refine Test.ie (fun h => ?_) (fun h => ?_))
    | (with_reducible refine Test.ne (fun h => ?_) (fun h => ?_))
    | ((with_reducible refine Test.b ?_ ?_); (focus first | assumption | (simp [negB]; done) | exact rfl))
    | ((with_reducible refine Test.nb ?_ ?_); (focus first | assumption | (simp [negB]; done) | exact rfl))
    | (with_reducible refine Test.notS (fun h => ?_) (fun h => ?_))
    | (with_reducible refine Test.mk (fun h => ?_) (fun h => ?_))
    | ((with_reducible refine Arith.tdiv ?_ ?_); omega)
    | (with_reducible refine Arith.bv8 ?_)
    | (with_reducible refine Arith.bv16 ?_)
    | (with_reducible refine Arith.bv32 ?_)
    | (with_reducible refine Arith.bv64 ?_)
    | ((with_reducible refine Arith.i64 ?_ ?_); omega)
    | ((with_reducible refine Arith.u64 ?_ ?_); omega)
    | ((with_reducible refine Arith.u32 ?_ ?_); omega)
    | ((with_reducible refine Arith.u16 ?_ ?_); omega)
    | ((with_reducible refine Arith.u8 ?_ ?_); omega)
    | ((with_reducible refine Arith.i32 ?_ ?_); omega)
    | (with_reducible refine Arith.mk ?_)
    | (with_reducible refine Ends.mk ?_))
  all_goals first | exact ⟨rfl, rfl⟩ | (exact absurd h (by decide)) | (exact absurd (by decide) h) | (exfalso; rw [decide_eq_true (by omega)] at h; exact absurd h (by decide)) | (exfalso; rw [decide_eq_false (by omega)] at h; exact absurd h (by decide)) | (exfalso; have e0 : (⟨#[]⟩ : ByteArray).size = 0 := rfl; omega)
set_option maxHeartbeats 4000000 in
theorem iplist_m (s : ByteArray) (a : Bool) (xs : List (Int × ByteArray)) (cp : Cap) (M : Det Try.prog 36 [.o (.slc 0 0 xs.length cp)] [.row a true (optSV xs)] (vB true) [.row a true (optSV xs)]) (al : Det Try.prog 27 [] [] (vB true) []) : Det Try.prog 13 [.o (.slc 0 0 xs.length cp), .o (.str s)] [.row a true (optSV xs)] (vB true) [.row a true (optSV xs)] := by
  refine can_of_W known mix Try.func13 (by kernel_rfl) ok_law10_IpList (Nat.le_of_ble_eq_true rfl) ?_
  repeat' ((conv => whnf); first
    | ((with_reducible refine Look.mk ?_); refine ⟨_, rfl, ?_⟩)
    | ((with_reducible refine LookN.zeros ?_))
    | ((with_reducible refine LookN.bytes ?_ ?_); (simp; done))
    | ((with_reducible refine BytesW.bytes ?_))
    | ((with_reducible refine Look.byte ?_ ?_); omega)
    | ((with_reducible refine Look.setb ?_ ?_ ?_); exact bv8_bd _; omega)
    | ((with_reducible refine LookN.setb ?_ ?_ ?_); exact bv8_bd _; omega)
    | ((with_reducible refine LookN.mk ?_); refine ⟨_, rfl, ?_⟩)
    | ((with_reducible refine Need.mk ?_ ?_); first | ((with_reducible refine needB ?_); kernel_rfl) | with_reducible rfl | omega | (with_reducible refine ⟨rfl, ?_⟩; focus omega) | (simp only [ByteArray.size_append, size_lit, List.size_toArray, List.length_cons, List.length_nil, Sp.ofB_size, ByteArray.size_extract]; omega) | exact rfl | trivial | exact Nat.le_of_ble_eq_true rfl | (exact ⟨rfl, by omega⟩) | (intro h; first | rfl | cases h) | (simp only [lenS_text, lenS_setN, lenS_zeros]; omega))
    | ((with_reducible refine BytesW.mk ?_); refine ⟨_, rfl, ?_⟩)
    | (with_reducible refine CallW.det (M) ?_)
    | (with_reducible refine CallW.det (al) ?_)
    | ((with_reducible refine Test.tmodEqT ?_ ?_ ?_); omega; focus first | omega | assumption)
    | ((with_reducible refine Test.tmodEqF ?_ ?_ ?_); omega; focus first | omega | assumption)
    | ((with_reducible refine Test.tmodNeT ?_ ?_ ?_); omega; focus first | omega | assumption)
    | ((with_reducible refine Test.tmodNeF ?_ ?_ ?_); omega; focus first | omega | assumption)
    | ((with_reducible refine Test.tmodEq ?_ (fun h => ?_) (fun h => ?_)); omega)
    | ((with_reducible refine Test.tmodNe ?_ (fun h => ?_) (fun h => ?_)); omega)
    | ((with_reducible refine Test.notT ?_ ?_); focus assumption)
    | ((with_reducible refine Test.notF ?_ ?_); focus assumption)
    | (with_reducible refine Test.notIe (fun h => ?_) (fun h => ?_))
    | (with_reducible refine Test.notD (fun h => ?_) (fun h => ?_))
    | ((with_reducible refine Test.empty (fun h => ?_) (fun h => ?_)))
    | (with_reducible refine Test.tt ?_)
    | (with_reducible refine Test.ff ?_)
    | ((with_reducible refine Test.dt ?_ ?_); omega)
    | ((with_reducible refine Test.df ?_ ?_); omega)
    | (with_reducible refine Test.d (fun h => ?_) (fun h => ?_))
    | ((with_reducible refine Test.ieT ?_ ?_); omega)
    | ((with_reducible refine Test.ieF ?_ ?_); omega)
    | ((with_reducible refine Test.neT ?_ ?_); omega)
    | ((with_reducible refine Test.neF ?_ ?_); omega)
    | (with_reducible refine Test.ie (fun h => ?_) (fun h => ?_))
    | (with_reducible refine Test.ne (fun h => ?_) (fun h => ?_))
    | ((with_reducible refine Test.b ?_ ?_); (focus first | assumption | (simp [negB]; done) | exact rfl))
    | ((with_reducible refine Test.nb ?_ ?_); (focus first | assumption | (simp [negB]; done) | exact rfl))
    | (with_reducible refine Test.notS (fun h => ?_) (fun h => ?_))
    | (with_reducible refine Test.mk (fun h => ?_) (fun h => ?_))
    | ((with_reducible refine Arith.tdiv ?_ ?_); omega)
    | (with_reducible refine Arith.bv8 ?_)
    | (with_reducible refine Arith.bv16 ?_)
    | (with_reducible refine Arith.bv32 ?_)
    | (with_reducible refine Arith.bv64 ?_)
    | ((with_reducible refine Arith.i64 ?_ ?_); omega)
    | ((with_reducible refine Arith.u64 ?_ ?_); omega)
    | ((with_reducible refine Arith.u32 ?_ ?_); omega)
    | ((with_reducible refine Arith.u16 ?_ ?_); omega)
    | ((with_reducible refine Arith.u8 ?_ ?_); omega)
    | ((with_reducible refine Arith.i32 ?_ ?_); omega)
    | (with_reducible refine Arith.mk ?_)
    | (with_reducible refine Ends.mk ?_))
  all_goals first | exact ⟨rfl, rfl⟩ | (exact absurd h (by decide)) | (exact absurd (by decide) h) | (exfalso; rw [decide_eq_true (by omega)] at h; exact absurd h (by decide)) | (exfalso; rw [decide_eq_false (by omega)] at h; exact absurd h (by decide)) | (exfalso; have e0 : (⟨#[]⟩ : ByteArray).size = 0 := rfl; omega)
end G2
end Go.Proofs.Ytnmeeafnobfobaa.VM
namespace Go.Proofs.Ytnmeeafnobfobaa.VM
namespace G2
open Go.RowKit
set_option linter.unusedVariables false
theorem iplist_n (s : ByteArray) (hs : s.size ≤ 4096) : Det Try.prog 13 [.o .nils, .o (.str s)] [] (vB true) [] := by
  by_cases h40 : s.size ≤ 40
  · cases h1 : optP (s.size + 1) s [] with
    | none => exact iplist_nx s hs  h40 h1 alive10_det
    | some l => cases l with
      | nil => exact iplist_n0 s hs  h40 h1 alive10_det
      | cons y ys => exact iplist_n1 s hs  y ys h40 h1 alive10_det
  · exact iplist_nf s hs  (by omega) alive10_det
theorem iplist_b (a : Bool) (xs : List (Int × ByteArray)) (cp : Cap) (hin : optIn xs) (s : ByteArray) (hs : s.size ≤ 4096) (he : ¬ opts10e xs = 0) (M : Det Try.prog 36 [.o (.slc 0 0 xs.length cp)] [.row a true (optSV xs)] (vB false) [.row a true (optSV xs)]) : Det Try.prog 13 [.o (.slc 0 0 xs.length cp), .o (.str s)] [.row a true (optSV xs)] (vB true) [.row a true (optSV xs)] := by
  by_cases h40 : s.size ≤ 40
  · cases h1 : optP (s.size + 1) s [] with
    | none => exact iplist_bx s hs a xs cp hin he M h40 h1 alive10_det
    | some l => cases l with
      | nil => exact iplist_b0 s hs a xs cp hin he M h40 h1 alive10_det
      | cons y ys => exact iplist_b1 s hs a xs cp hin he M y ys h40 h1 alive10_det
  · exact iplist_bf s hs a xs cp hin he M (by omega) alive10_det
theorem iplist_e (a : Bool) (cp : Cap) (M : Det Try.prog 36 [.o (.slc 0 0 0 cp)] [.row a true []] (vB false) [.row a true []]) (s : ByteArray) (hs : s.size ≤ 4096) : Det Try.prog 13 [.o (.slc 0 0 0 cp), .o (.str s)] [.row a true []] (vB true) [.row a true []] := by
  by_cases h40 : s.size ≤ 40
  · cases h1 : optP (s.size + 1) s [] with
    | none => exact iplist_ex s hs a cp M h40 h1 alive10_det
    | some l => cases l with
      | nil => exact iplist_e0 s hs a cp M h40 h1 alive10_det
      | cons y ys => exact iplist_e1 s hs a cp M y ys h40 h1 alive10_det
  · exact iplist_ef s hs a cp M (by omega) alive10_det
theorem iplist_c (a : Bool) (x : Int × ByteArray) (xs : List (Int × ByteArray)) (cp : Cap) (hin : optIn (x :: xs)) (s : ByteArray) (hs : s.size ≤ 4096) (he : opts10e (x :: xs) = 0) (M : Det Try.prog 36 [.o (.slc 0 0 (xs.length + 1) cp)] [.row a true (optSV (x :: xs))] (vB false) [.row a true (optSV (x :: xs))]) : Det Try.prog 13 [.o (.slc 0 0 (xs.length + 1) cp), .o (.str s)] [.row a true (optSV (x :: xs))] (vB true) [.row a true (optSV (x :: xs))] := by
  by_cases h40 : s.size ≤ 40
  · cases h1 : optP (s.size + 1) s [] with
    | none => exact iplist_cx s hs a x xs cp hin he M h40 h1 alive10_det
    | some l => cases l with
      | nil => exact iplist_c0 s hs a x xs cp hin he M h40 h1 alive10_det
      | cons y ys => exact iplist_c1 s hs a x xs cp hin he M y ys h40 h1 alive10_det
  · exact iplist_cf s hs a x xs cp hin he M (by omega) alive10_det
theorem iplist_row0 (s : ByteArray) (hs2 : s.size ≤ 140737488351232) : Det Try.prog 13 [.o .nils, .o (.str s)] [] (vB true) [] := by
  by_cases hs : s.size ≤ 4096
  · exact iplist_n s hs
  · exact iplist_nl s (by omega) hs2 alive10_det
theorem iplist_row1 (xs : List (Int × ByteArray)) (cp : Cap) (s : ByteArray) (hn : xs.length * 24 ≤ 140737488351232) (hx : ∀ x ∈ xs, (0 ≤ x.1 ∧ x.1 ≤ 255) ∧ x.2.size ≤ 140737488351232) (hs2 : s.size ≤ 140737488351232) :
    Det Try.prog 13 [.o (.slc 0 0 xs.length cp), .o (.str s)] [.row false true (optSV xs)] (vB true) [.row false true (optSV xs)] := by
  have M := many_det false xs cp (by omega) (fun x h => by have := (hx x h).2; omega)
  cases hm : optMany xs with
  | true => rw [hm] at M; exact iplist_m s false xs cp M alive10_det
  | false =>
    rw [hm] at M
    by_cases hs : s.size ≤ 4096
    · have hin := optIn_of hm fun x h => (hx x h).1
      by_cases he : opts10e xs = 0
      · cases xs with
        | nil => exact iplist_e false cp M s hs
        | cons x xs => exact iplist_c false x xs cp hin s hs he M
      · exact iplist_b false xs cp hin s hs he M
    · exact iplist_l s (by omega) hs2 false xs cp M alive10_det
end G2
end Go.Proofs.Ytnmeeafnobfobaa.VM
