/- law 06 by the evaluator: the laws. -/
import Derived.Test.YtnikpanebkknfaaDoorP06n
namespace Go.Proofs.YtnikpanebkknfaaDoor.VM
namespace G4
open Go.RowKit
set_option linter.unusedVariables false
set_option linter.unusedSimpArgs false
set_option maxRecDepth 100000
variable {G : Ground}
theorem rparse_det' (s : ByteArray) (hs : s.size ≤ 1000000) : Det G Tryd.prog 18 [.o (.str s)] [] (.t [.o (.int .u32 (valA s)), .o (.int .i64 (errA s))]) [] := by
  have h := rparse_det (G := G) s hs
  rw [(same_parse s).1, (same_parse s).2] at h; exact h
theorem aparse_text (hG : Tabs G) (ip : Int) (h : 0 ≤ ip ∧ ip ≤ 4294967295) : Det G Tryd.prog 17 [.o (.str (textB ip))] [] (.t [.o (.int .u32 ip), .o (.int .i64 0)]) [] := by
  have ht := text_size h
  have e := aparse_det (G := G) hG (textB ip) (by omega)
  rw [(val_text h).1, (val_text h).2] at e; exact e
theorem errA_or (s : ByteArray) : errA s = 0 ∨ errA s = 8 := by unfold errA; split <;> simp
theorem beq_false_of {a b : ByteArray} (h : ¬ a = b) : (a.toList == b.toList) = false := by
  rw [Bool.eq_false_iff]; exact fun e => h (eq_of_bytes e)
theorem beq_bytes (a b : ByteArray) : (a.toList == b.toList) = decide (a = b) := by
  by_cases h : a = b
  · subst h; simp
  · rw [beq_false_of h]; simp [h]
def vf_law06_AddrTells : VFn := ⟨(.seq (.reg [
    ⟨(some 4), .mv (.c (.p (.o (.bool false)))), none, 0⟩] 0 none) (.seq (.seq (.reg [
    ⟨(some 9), .mv (.t 1), none, 0⟩,
    ⟨(some 10), .len false (.t 9), none, 0⟩,
    ⟨(some 11), .bin .gtr (.t 10) (.c (.p (.o (.int .i64 256)))), none, 0⟩] 0 none) (.cond (.t 11) (.seq (.reg [
    ⟨(some 12), .call 16 [] 0, none, 0⟩,
    ⟨(some 4), .mv (.t 12), none, 0⟩] 0 none) .ret) .skip)) (.seq (.reg [
    ⟨(some 14), .mv (.t 1), none, 0⟩,
    ⟨(some 15), .call 17 [(.t 14)] 0, none, 0⟩,
    ⟨(some 13), .mv (.t 15), none, 0⟩,
    ⟨(some 16), .ext 0 (.t 13), none, 0⟩,
    ⟨(some 17), .ext 1 (.t 13), none, 0⟩,
    ⟨(some 5), .mv (.t 16), none, 0⟩,
    ⟨(some 6), .mv (.t 17), none, 0⟩] 0 none) (.seq (.reg [
    ⟨(some 19), .mv (.t 1), none, 0⟩,
    ⟨(some 20), .call 18 [(.t 19)] 0, none, 0⟩,
    ⟨(some 18), .mv (.t 20), none, 0⟩,
    ⟨(some 21), .ext 0 (.t 18), none, 0⟩,
    ⟨(some 22), .ext 1 (.t 18), none, 0⟩,
    ⟨(some 7), .mv (.t 21), none, 0⟩,
    ⟨(some 8), .mv (.t 22), none, 0⟩] 0 none) (.seq (.reg [
    ⟨(some 23), .mv (.t 0), none, 0⟩,
    ⟨(some 24), .call 19 [(.t 23)] 0, none, 0⟩,
    ⟨(some 25), .mv (.t 0), none, 0⟩,
    ⟨(some 26), .call 20 [(.t 25)] 0, none, 0⟩,
    ⟨(some 27), .bin .eql (.t 24) (.t 26), none, 0⟩,
    ⟨(some 28), .mv (.t 27), none, 0⟩,
    ⟨(some 29), .mv (.t 0), (some (28, true)), 0⟩,
    ⟨(some 30), .call 21 [(.t 29)] 0, (some (28, true)), 0⟩,
    ⟨(some 31), .mv (.t 0), (some (28, true)), 0⟩,
    ⟨(some 32), .call 22 [(.t 31)] 0, (some (28, true)), 0⟩,
    ⟨(some 33), .bin .eql (.t 30) (.t 32), (some (28, true)), 0⟩,
    ⟨(some 34), .pick (.t 28) (.t 33) (.c (.p (.o (.bool false)))), none, 0⟩,
    ⟨(some 35), .mv (.t 34), none, 0⟩,
    ⟨(some 36), .mv (.t 5), (some (35, true)), 0⟩,
    ⟨(some 37), .mv (.t 7), (some (35, true)), 0⟩,
    ⟨(some 38), .bin .eql (.t 36) (.t 37), (some (35, true)), 0⟩,
    ⟨(some 39), .pick (.t 35) (.t 38) (.c (.p (.o (.bool false)))), none, 0⟩,
    ⟨(some 40), .mv (.t 39), none, 0⟩,
    ⟨(some 41), .mv (.t 6), (some (40, true)), 0⟩,
    ⟨(some 42), .mv (.t 8), (some (40, true)), 0⟩,
    ⟨(some 43), .bin .eql (.t 41) (.t 42), (some (40, true)), 0⟩,
    ⟨(some 44), .pick (.t 40) (.t 43) (.c (.p (.o (.bool false)))), none, 0⟩,
    ⟨(some 45), .mv (.t 44), none, 0⟩,
    ⟨(some 46), .call 16 [] 0, (some (45, true)), 0⟩,
    ⟨(some 47), .pick (.t 45) (.t 46) (.c (.p (.o (.bool false)))), none, 0⟩,
    ⟨(some 4), .mv (.t 47), none, 0⟩] 0 none) .ret))))),
  [.tmp 4], 48, [0, 1, 4, 5, 6, 7, 8]⟩
theorem ok_law06_AddrTells : cFn Tryd.prog eqsT newsT vf_law06_AddrTells.keep Tryd.f4 = some vf_law06_AddrTells := by kernel_rfl
def vf_law06_AddrPairs : VFn := ⟨(.seq (.reg [
    ⟨(some 8), .box (.t 3), none, 0⟩,
    ⟨(some 9), .box (.t 4), none, 1⟩,
    ⟨(some 10), .mv (.c (.p (.o (.bool false)))), none, 2⟩] 2 none) (.seq (.reg [
    ⟨(some 11), .mv (.t 2), none, 0⟩,
    ⟨(some 12), .call 23 [(.t 11)] 0, none, 0⟩,
    ⟨(some 13), .mv (.t 2), none, 0⟩,
    ⟨(some 14), .call 24 [(.t 13)] 0, none, 0⟩,
    ⟨(some 15), .bin .eql (.t 12) (.t 14), none, 0⟩,
    ⟨(some 16), .mv (.t 15), none, 0⟩,
    ⟨(some 17), .mv (.t 0), (some (16, true)), 0⟩,
    ⟨(some 18), .mv (.t 1), (some (16, true)), 0⟩,
    ⟨(some 19), .mv (.t 2), (some (16, true)), 0⟩,
    ⟨(some 20), .call 25 [(.t 17), (.t 18), (.t 19)] 0, (some (16, true)), 0⟩,
    ⟨(some 21), .mv (.t 0), (some (16, true)), 0⟩,
    ⟨(some 22), .mv (.t 1), (some (16, true)), 0⟩,
    ⟨(some 23), .mv (.t 2), (some (16, true)), 0⟩,
    ⟨(some 24), .call 26 [(.t 21), (.t 22), (.t 23)] 0, (some (16, true)), 0⟩,
    ⟨(some 25), .eq .bool false (.t 20) (.t 24), (some (16, true)), 0⟩,
    ⟨(some 26), .pick (.t 16) (.t 25) (.c (.p (.o (.bool false)))), none, 0⟩,
    ⟨(some 27), .mv (.t 26), none, 0⟩,
    ⟨(some 28), .ld (some 4) (.t 8), (some (27, true)), 0⟩,
    ⟨(some 29), .call 27 [(.t 28)] 0, (some (27, true)), 0⟩,
    ⟨(some 30), .ld (some 4) (.t 8), (some (27, true)), 0⟩,
    ⟨(some 31), .call 28 [(.t 30)] 0, (some (27, true)), 0⟩,
    ⟨(some 32), .eq (.flat [.int .u32, .int .u16, .int .u32, .int .u16]) false (.t 29) (.t 31), (some (27, true)), 0⟩,
    ⟨(some 33), .pick (.t 27) (.t 32) (.c (.p (.o (.bool false)))), none, 0⟩,
    ⟨(some 34), .mv (.t 33), none, 0⟩,
    ⟨(some 35), .ld (some 4) (.t 8), (some (34, true)), 0⟩,
    ⟨(some 36), .call 29 [(.t 35)] 0, (some (34, true)), 0⟩,
    ⟨(some 37), .ld (some 4) (.t 8), (some (34, true)), 0⟩,
    ⟨(some 38), .call 30 [(.t 37)] 0, (some (34, true)), 0⟩,
    ⟨(some 39), .bin .eql (.t 36) (.t 38), (some (34, true)), 0⟩,
    ⟨(some 40), .pick (.t 34) (.t 39) (.c (.p (.o (.bool false)))), none, 0⟩,
    ⟨(some 41), .mv (.t 40), none, 0⟩,
    ⟨(some 42), .ld (some 4) (.t 8), (some (41, true)), 0⟩,
    ⟨(some 43), .ld (some 4) (.t 9), (some (41, true)), 0⟩,
    ⟨(some 44), .call 31 [(.t 42), (.t 43)] 0, (some (41, true)), 0⟩,
    ⟨(some 45), .ld (some 4) (.t 8), (some (41, true)), 0⟩,
    ⟨(some 46), .ld (some 4) (.t 9), (some (41, true)), 0⟩,
    ⟨(some 47), .call 32 [(.t 45), (.t 46)] 0, (some (41, true)), 0⟩,
    ⟨(some 48), .bin .eql (.t 44) (.t 47), (some (41, true)), 0⟩,
    ⟨(some 49), .pick (.t 41) (.t 48) (.c (.p (.o (.bool false)))), none, 0⟩,
    ⟨(some 50), .mv (.t 49), none, 0⟩,
    ⟨(some 51), .call 16 [] 0, (some (50, true)), 0⟩,
    ⟨(some 52), .pick (.t 50) (.t 51) (.c (.p (.o (.bool false)))), none, 0⟩,
    ⟨(some 10), .mv (.t 52), none, 0⟩] 0 (some [(0, 2), (1, 2), (6, 7), (6, 8), (7, 8), (6, 10), (7, 10), (8, 10), (9, 10), (6, 11), (7, 11), (8, 11), (9, 11), (10, 11), (6, 12), (7, 12), (8, 12), (9, 12), (10, 12), (11, 12), (17, 19), (18, 19), (24, 26), (25, 26), (31, 32), (31, 34), (32, 34), (33, 34), (31, 35), (32, 35), (33, 35), (34, 35)])) .ret)),
  [.tmp 10], 53, [0, 1, 2, 3, 4, 8, 9, 10]⟩
theorem ok_law06_AddrPairs : cFn Tryd.prog eqsT newsT vf_law06_AddrPairs.keep Tryd.f5 = some vf_law06_AddrPairs := by kernel_rfl
def vf_law06_AddrBack : VFn := ⟨(.seq (.reg [
    ⟨(some 6), .mv (.c (.p (.o (.bool false)))), none, 0⟩] 0 none) (.seq (.seq (.reg [
    ⟨(some 11), .mv (.t 2), none, 0⟩,
    ⟨(some 12), .len false (.t 11), none, 0⟩,
    ⟨(some 13), .bin .gtr (.t 12) (.c (.p (.o (.int .i64 256)))), none, 0⟩] 0 none) (.cond (.t 13) (.seq (.reg [
    ⟨(some 14), .call 16 [] 0, none, 0⟩,
    ⟨(some 6), .mv (.t 14), none, 0⟩] 0 none) .ret) .skip)) (.seq (.reg [
    ⟨(some 16), .mv (.t 0), none, 0⟩,
    ⟨(some 17), .call 19 [(.t 16)] 0, none, 0⟩,
    ⟨(some 18), .call 17 [(.t 17)] 0, none, 0⟩,
    ⟨(some 15), .mv (.t 18), none, 0⟩,
    ⟨(some 19), .ext 0 (.t 15), none, 0⟩,
    ⟨(some 20), .ext 1 (.t 15), none, 0⟩,
    ⟨(some 7), .mv (.t 19), none, 0⟩,
    ⟨(some 8), .mv (.t 20), none, 0⟩] 0 none) (.seq (.reg [
    ⟨(some 22), .mv (.t 2), none, 0⟩,
    ⟨(some 23), .call 17 [(.t 22)] 0, none, 0⟩,
    ⟨(some 21), .mv (.t 23), none, 0⟩,
    ⟨(some 24), .ext 0 (.t 21), none, 0⟩,
    ⟨(some 25), .ext 1 (.t 21), none, 0⟩,
    ⟨(some 9), .mv (.t 24), none, 0⟩,
    ⟨(some 10), .mv (.t 25), none, 0⟩] 0 none) (.seq (.reg [
    ⟨(some 26), .mv (.t 7), none, 0⟩,
    ⟨(some 27), .mv (.t 0), none, 0⟩,
    ⟨(some 28), .bin .eql (.t 26) (.t 27), none, 0⟩,
    ⟨(some 29), .mv (.t 28), none, 0⟩,
    ⟨(some 30), .mv (.t 8), (some (29, true)), 0⟩,
    ⟨(some 31), .bin .eql (.t 30) (.c (.p (.o (.int .i64 0)))), (some (29, true)), 0⟩,
    ⟨(some 32), .pick (.t 29) (.t 31) (.c (.p (.o (.bool false)))), none, 0⟩,
    ⟨(some 33), .mv (.t 32), none, 0⟩,
    ⟨(some 34), .mv (.t 0), (some (33, true)), 0⟩,
    ⟨(some 35), .call 19 [(.t 34)] 0, (some (33, true)), 0⟩,
    ⟨(some 36), .mv (.t 1), (some (33, true)), 0⟩,
    ⟨(some 37), .call 19 [(.t 36)] 0, (some (33, true)), 0⟩,
    ⟨(some 38), .bin .eql (.t 35) (.t 37), (some (33, true)), 0⟩,
    ⟨(some 39), .mv (.t 0), (some (33, true)), 0⟩,
    ⟨(some 40), .mv (.t 1), (some (33, true)), 0⟩,
    ⟨(some 41), .bin .eql (.t 39) (.t 40), (some (33, true)), 0⟩,
    ⟨(some 42), .eq .bool false (.t 38) (.t 41), (some (33, true)), 0⟩,
    ⟨(some 43), .pick (.t 33) (.t 42) (.c (.p (.o (.bool false)))), none, 0⟩,
    ⟨(some 44), .mv (.t 43), none, 0⟩,
    ⟨(some 45), .mv (.t 10), (some (44, true)), 0⟩,
    ⟨(some 46), .bin .neq (.t 45) (.c (.p (.o (.int .i64 0)))), (some (44, true)), 0⟩,
    ⟨(some 47), .mv (.t 46), (some (44, true)), 0⟩,
    ⟨(some 48), .mv (.t 9), (some (47, false)), 0⟩,
    ⟨(some 49), .call 19 [(.t 48)] 0, (some (47, false)), 0⟩,
    ⟨(some 50), .mv (.t 2), (some (47, false)), 0⟩,
    ⟨(some 51), .bin .eql (.t 49) (.t 50), (some (47, false)), 0⟩,
    ⟨(some 52), .pick (.t 47) (.c (.p (.o (.bool true)))) (.t 51), (some (44, true)), 0⟩,
    ⟨(some 53), .pick (.t 44) (.t 52) (.c (.p (.o (.bool false)))), none, 0⟩,
    ⟨(some 54), .mv (.t 53), none, 0⟩,
    ⟨(some 55), .mv (.t 0), (some (54, true)), 0⟩,
    ⟨(some 56), .call 19 [(.t 55)] 0, (some (54, true)), 0⟩,
    ⟨(some 57), .len false (.t 56), (some (54, true)), 0⟩,
    ⟨(some 58), .bin .geq (.t 57) (.c (.p (.o (.int .i64 7)))), (some (54, true)), 0⟩,
    ⟨(some 59), .pick (.t 54) (.t 58) (.c (.p (.o (.bool false)))), none, 0⟩,
    ⟨(some 60), .mv (.t 59), none, 0⟩,
    ⟨(some 61), .mv (.t 0), (some (60, true)), 0⟩,
    ⟨(some 62), .call 19 [(.t 61)] 0, (some (60, true)), 0⟩,
    ⟨(some 63), .len false (.t 62), (some (60, true)), 0⟩,
    ⟨(some 64), .bin .leq (.t 63) (.c (.p (.o (.int .i64 15)))), (some (60, true)), 0⟩,
    ⟨(some 65), .pick (.t 60) (.t 64) (.c (.p (.o (.bool false)))), none, 0⟩,
    ⟨(some 66), .mv (.t 65), none, 0⟩,
    ⟨(some 67), .call 16 [] 0, (some (66, true)), 0⟩,
    ⟨(some 68), .pick (.t 66) (.t 67) (.c (.p (.o (.bool false)))), none, 0⟩,
    ⟨(some 6), .mv (.t 68), none, 0⟩] 0 none) .ret))))),
  [.tmp 6], 69, [0, 1, 2, 6, 7, 8, 9, 10]⟩
theorem ok_law06_AddrBack : cFn Tryd.prog eqsT newsT vf_law06_AddrBack.keep Tryd.f6 = some vf_law06_AddrBack := by kernel_rfl
def vf_law06_AddrNets : VFn := ⟨(.seq (.reg [
    ⟨(some 10), .mv (.c (.p (.o (.bool false)))), none, 0⟩] 0 none) (.seq (.reg [
    ⟨(some 14), .mv (.t 3), none, 0⟩,
    ⟨(some 15), .cvi .i64 (.t 14), none, 0⟩,
    ⟨(some 16), .bin .rem (.t 15) (.c (.p (.o (.int .i64 33)))), none, 0⟩,
    ⟨(some 17), .mv (.t 4), none, 0⟩,
    ⟨(some 18), .cvi .i64 (.t 17), none, 0⟩,
    ⟨(some 19), .bin .rem (.t 18) (.c (.p (.o (.int .i64 33)))), none, 0⟩,
    ⟨(some 11), .mv (.t 16), none, 0⟩,
    ⟨(some 12), .mv (.t 19), none, 0⟩] 0 none) (.seq (.seq (.reg [
    ⟨(some 20), .mv (.t 11), none, 0⟩,
    ⟨(some 21), .mv (.t 12), none, 0⟩,
    ⟨(some 22), .bin .gtr (.t 20) (.t 21), none, 0⟩] 0 none) (.cond (.t 22) (.reg [
    ⟨(some 23), .mv (.t 12), none, 0⟩,
    ⟨(some 24), .mv (.t 11), none, 0⟩,
    ⟨(some 11), .mv (.t 23), none, 0⟩,
    ⟨(some 12), .mv (.t 24), none, 0⟩] 0 none) .skip)) (.seq (.seq (.reg [
    ⟨(some 25), .mv (.t 0), none, 0⟩,
    ⟨(some 26), .mv (.t 1), none, 0⟩,
    ⟨(some 27), .mv (.t 12), none, 0⟩,
    ⟨(some 28), .call 25 [(.t 25), (.t 26), (.t 27)] 0, none, 0⟩,
    ⟨(some 29), .mv (.t 28), none, 0⟩,
    ⟨(some 30), .mv (.t 0), (some (29, true)), 0⟩,
    ⟨(some 31), .mv (.t 1), (some (29, true)), 0⟩,
    ⟨(some 32), .mv (.t 11), (some (29, true)), 0⟩,
    ⟨(some 33), .call 25 [(.t 30), (.t 31), (.t 32)] 0, (some (29, true)), 0⟩,
    ⟨(some 34), .un .not (.t 33), (some (29, true)), 0⟩,
    ⟨(some 35), .pick (.t 29) (.t 34) (.c (.p (.o (.bool false)))), none, 0⟩,
    ⟨(some 36), .mv (.t 35), none, 0⟩,
    ⟨(some 37), .mv (.t 0), (some (36, false)), 0⟩,
    ⟨(some 38), .mv (.t 0), (some (36, false)), 0⟩,
    ⟨(some 39), .mv (.t 12), (some (36, false)), 0⟩,
    ⟨(some 40), .call 25 [(.t 37), (.t 38), (.t 39)] 0, (some (36, false)), 0⟩,
    ⟨(some 41), .un .not (.t 40), (some (36, false)), 0⟩,
    ⟨(some 42), .pick (.t 36) (.c (.p (.o (.bool true)))) (.t 41), none, 0⟩,
    ⟨(some 43), .mv (.t 42), none, 0⟩,
    ⟨(some 44), .mv (.t 0), (some (43, false)), 0⟩,
    ⟨(some 45), .mv (.t 1), (some (43, false)), 0⟩,
    ⟨(some 46), .call 25 [(.t 44), (.t 45), (.c (.p (.o (.int .i64 0))))] 0, (some (43, false)), 0⟩,
    ⟨(some 47), .un .not (.t 46), (some (43, false)), 0⟩,
    ⟨(some 48), .pick (.t 43) (.c (.p (.o (.bool true)))) (.t 47), none, 0⟩,
    ⟨(some 49), .mv (.t 48), none, 0⟩,
    ⟨(some 50), .mv (.t 0), (some (49, false)), 0⟩,
    ⟨(some 51), .mv (.t 1), (some (49, false)), 0⟩,
    ⟨(some 52), .call 25 [(.t 50), (.t 51), (.c (.p (.o (.int .i64 32))))] 0, (some (49, false)), 0⟩,
    ⟨(some 53), .mv (.t 0), (some (49, false)), 0⟩,
    ⟨(some 54), .mv (.t 1), (some (49, false)), 0⟩,
    ⟨(some 55), .bin .eql (.t 53) (.t 54), (some (49, false)), 0⟩,
    ⟨(some 56), .eq .bool true (.t 52) (.t 55), (some (49, false)), 0⟩,
    ⟨(some 57), .pick (.t 49) (.c (.p (.o (.bool true)))) (.t 56), none, 0⟩] 0 none) (.cond (.t 57) (.seq (.reg [
    ⟨(some 10), .mv (.c (.p (.o (.bool false)))), none, 0⟩] 0 none) .ret) .skip)) (.seq (.seq (.reg [
    ⟨(some 58), .mv (.t 12), none, 0⟩,
    ⟨(some 59), .call 23 [(.t 58)] 0, none, 0⟩,
    ⟨(some 60), .mv (.t 11), none, 0⟩,
    ⟨(some 61), .call 23 [(.t 60)] 0, none, 0⟩,
    ⟨(some 62), .bin .and (.t 59) (.t 61), none, 0⟩,
    ⟨(some 63), .mv (.t 11), none, 0⟩,
    ⟨(some 64), .call 23 [(.t 63)] 0, none, 0⟩,
    ⟨(some 65), .bin .neq (.t 62) (.t 64), none, 0⟩,
    ⟨(some 66), .mv (.t 65), none, 0⟩,
    ⟨(some 67), .mv (.t 11), (some (66, false)), 0⟩,
    ⟨(some 68), .call 23 [(.t 67)] 0, (some (66, false)), 0⟩,
    ⟨(some 69), .mv (.t 12), (some (66, false)), 0⟩,
    ⟨(some 70), .call 23 [(.t 69)] 0, (some (66, false)), 0⟩,
    ⟨(some 71), .bin .eql (.t 68) (.t 70), (some (66, false)), 0⟩,
    ⟨(some 72), .mv (.t 11), (some (66, false)), 0⟩,
    ⟨(some 73), .mv (.t 12), (some (66, false)), 0⟩,
    ⟨(some 74), .bin .eql (.t 72) (.t 73), (some (66, false)), 0⟩,
    ⟨(some 75), .eq .bool true (.t 71) (.t 74), (some (66, false)), 0⟩,
    ⟨(some 76), .pick (.t 66) (.c (.p (.o (.bool true)))) (.t 75), none, 0⟩,
    ⟨(some 77), .mv (.t 76), none, 0⟩,
    ⟨(some 78), .mv (.t 11), (some (77, false)), 0⟩,
    ⟨(some 79), .call 23 [(.t 78)] 0, (some (77, false)), 0⟩,
    ⟨(some 80), .un .xor (.t 79), (some (77, false)), 0⟩,
    ⟨(some 81), .mv (.t 11), (some (77, false)), 0⟩,
    ⟨(some 82), .call 23 [(.t 81)] 0, (some (77, false)), 0⟩,
    ⟨(some 83), .un .xor (.t 82), (some (77, false)), 0⟩,
    ⟨(some 84), .bin .add (.t 83) (.c (.p (.o (.int .u32 1)))), (some (77, false)), 0⟩,
    ⟨(some 85), .bin .and (.t 80) (.t 84), (some (77, false)), 0⟩,
    ⟨(some 86), .bin .neq (.t 85) (.c (.p (.o (.int .u32 0)))), (some (77, false)), 0⟩,
    ⟨(some 87), .pick (.t 77) (.c (.p (.o (.bool true)))) (.t 86), none, 0⟩] 0 none) (.cond (.t 87) (.seq (.reg [
    ⟨(some 10), .mv (.c (.p (.o (.bool false)))), none, 0⟩] 0 none) .ret) .skip)) (.seq (.reg [
    ⟨(some 88), .mv (.t 1), none, 0⟩,
    ⟨(some 89), .mv (.t 2), none, 0⟩,
    ⟨(some 90), .mv (.t 11), none, 0⟩,
    ⟨(some 91), .call 25 [(.t 88), (.t 89), (.t 90)] 0, none, 0⟩,
    ⟨(some 13), .mv (.t 91), none, 0⟩] 0 none) (.seq (.reg [
    ⟨(some 92), .mv (.t 0), none, 0⟩,
    ⟨(some 93), .mv (.t 1), none, 0⟩,
    ⟨(some 94), .mv (.t 11), none, 0⟩,
    ⟨(some 95), .call 25 [(.t 92), (.t 93), (.t 94)] 0, none, 0⟩,
    ⟨(some 96), .un .not (.t 95), none, 0⟩,
    ⟨(some 97), .mv (.t 96), none, 0⟩,
    ⟨(some 98), .mv (.t 0), (some (97, false)), 0⟩,
    ⟨(some 99), .mv (.t 2), (some (97, false)), 0⟩,
    ⟨(some 100), .mv (.t 12), (some (97, false)), 0⟩,
    ⟨(some 101), .call 25 [(.t 98), (.t 99), (.t 100)] 0, (some (97, false)), 0⟩,
    ⟨(some 102), .un .not (.t 101), (some (97, false)), 0⟩,
    ⟨(some 103), .pick (.t 97) (.c (.p (.o (.bool true)))) (.t 102), none, 0⟩,
    ⟨(some 104), .mv (.t 103), none, 0⟩,
    ⟨(some 105), .mv (.t 13), (some (104, false)), 0⟩,
    ⟨(some 106), .pick (.t 104) (.c (.p (.o (.bool true)))) (.t 105), none, 0⟩,
    ⟨(some 107), .mv (.t 106), none, 0⟩,
    ⟨(some 108), .mv (.t 13), (some (107, true)), 0⟩,
    ⟨(some 109), .un .not (.t 108), (some (107, true)), 0⟩,
    ⟨(some 110), .mv (.t 109), (some (107, true)), 0⟩,
    ⟨(some 111), .mv (.t 0), (some (110, false)), 0⟩,
    ⟨(some 112), .mv (.t 1), (some (110, false)), 0⟩,
    ⟨(some 113), .mv (.t 11), (some (110, false)), 0⟩,
    ⟨(some 114), .call 25 [(.t 111), (.t 112), (.t 113)] 0, (some (110, false)), 0⟩,
    ⟨(some 115), .mv (.t 0), (some (110, false)), 0⟩,
    ⟨(some 116), .mv (.t 2), (some (110, false)), 0⟩,
    ⟨(some 117), .mv (.t 11), (some (110, false)), 0⟩,
    ⟨(some 118), .call 25 [(.t 115), (.t 116), (.t 117)] 0, (some (110, false)), 0⟩,
    ⟨(some 119), .eq .bool false (.t 114) (.t 118), (some (110, false)), 0⟩,
    ⟨(some 120), .pick (.t 110) (.c (.p (.o (.bool true)))) (.t 119), (some (107, true)), 0⟩,
    ⟨(some 121), .pick (.t 107) (.t 120) (.c (.p (.o (.bool false)))), none, 0⟩,
    ⟨(some 122), .mv (.t 121), none, 0⟩,
    ⟨(some 123), .call 16 [] 0, (some (122, true)), 0⟩,
    ⟨(some 124), .pick (.t 122) (.t 123) (.c (.p (.o (.bool false)))), none, 0⟩,
    ⟨(some 10), .mv (.t 124), none, 0⟩] 0 none) .ret))))))),
  [.tmp 10], 125, [0, 1, 2, 3, 4, 10, 11, 12, 13]⟩
theorem ok_law06_AddrNets : cFn Tryd.prog eqsT newsT vf_law06_AddrNets.keep Tryd.f7 = some vf_law06_AddrNets := by kernel_rfl
def vf_law06_AddrOrder : VFn := ⟨(.seq (.reg [
    ⟨(some 3), .box (.t 0), none, 0⟩,
    ⟨(some 4), .box (.t 1), none, 1⟩,
    ⟨(some 5), .box (.t 2), none, 2⟩,
    ⟨(some 6), .mv (.c (.p (.o (.bool false)))), none, 3⟩] 3 none) (.seq (.seq (.reg [
    ⟨(some 9), .ld (some 4) (.t 3), none, 0⟩,
    ⟨(some 10), .call 27 [(.t 9)] 0, none, 0⟩,
    ⟨(some 11), .call 27 [(.t 10)] 0, none, 0⟩,
    ⟨(some 12), .ld (some 4) (.t 3), none, 0⟩,
    ⟨(some 13), .eq (.flat [.int .u32, .int .u16, .int .u32, .int .u16]) true (.t 11) (.t 12), none, 0⟩,
    ⟨(some 14), .mv (.t 13), none, 0⟩,
    ⟨(some 15), .ld (some 4) (.t 3), (some (14, false)), 0⟩,
    ⟨(some 16), .call 27 [(.t 15)] 0, (some (14, false)), 0⟩,
    ⟨(some 17), .ld (some 4) (.t 3), (some (14, false)), 0⟩,
    ⟨(some 18), .eq (.flat [.int .u32, .int .u16, .int .u32, .int .u16]) false (.t 16) (.t 17), (some (14, false)), 0⟩,
    ⟨(some 19), .fad 0 (.t 3), (some (14, false)), 0⟩,
    ⟨(some 20), .ld (some 2) (.t 19), (some (14, false)), 0⟩,
    ⟨(some 21), .fad 2 (.t 3), (some (14, false)), 0⟩,
    ⟨(some 22), .ld (some 2) (.t 21), (some (14, false)), 0⟩,
    ⟨(some 23), .eq (.flat [.int .u32, .int .u16]) false (.t 20) (.t 22), (some (14, false)), 0⟩,
    ⟨(some 24), .eq .bool true (.t 18) (.t 23), (some (14, false)), 0⟩,
    ⟨(some 25), .pick (.t 14) (.c (.p (.o (.bool true)))) (.t 24), none, 0⟩,
    ⟨(some 26), .mv (.t 25), none, 0⟩,
    ⟨(some 27), .ld (some 4) (.t 3), (some (26, false)), 0⟩,
    ⟨(some 28), .call 29 [(.t 27)] 0, (some (26, false)), 0⟩,
    ⟨(some 29), .ld (some 4) (.t 4), (some (26, false)), 0⟩,
    ⟨(some 30), .call 29 [(.t 29)] 0, (some (26, false)), 0⟩,
    ⟨(some 31), .bin .eql (.t 28) (.t 30), (some (26, false)), 0⟩,
    ⟨(some 32), .ld (some 4) (.t 3), (some (26, false)), 0⟩,
    ⟨(some 33), .ld (some 4) (.t 4), (some (26, false)), 0⟩,
    ⟨(some 34), .eq (.flat [.int .u32, .int .u16, .int .u32, .int .u16]) false (.t 32) (.t 33), (some (26, false)), 0⟩,
    ⟨(some 35), .eq .bool true (.t 31) (.t 34), (some (26, false)), 0⟩,
    ⟨(some 36), .pick (.t 26) (.c (.p (.o (.bool true)))) (.t 35), none, 0⟩] 0 (some [(0, 3), (1, 3), (2, 3), (6, 8), (7, 8), (6, 10), (7, 10), (8, 10), (9, 10), (6, 11), (7, 11), (8, 11), (9, 11), (6, 12), (7, 12), (8, 12), (9, 12), (10, 12), (11, 12), (6, 13), (7, 13), (8, 13), (9, 13), (10, 13), (11, 13), (6, 14), (7, 14), (8, 14), (9, 14), (18, 20), (19, 20), (18, 23), (19, 23), (20, 23), (21, 23), (22, 23), (18, 24), (19, 24), (20, 24), (21, 24), (22, 24), (23, 24), (18, 25), (19, 25), (20, 25), (21, 25), (22, 25)])) (.cond (.t 36) (.seq (.reg [
    ⟨(some 6), .mv (.c (.p (.o (.bool false)))), none, 0⟩] 0 none) .ret) .skip)) (.seq (.reg [
    ⟨(some 37), .ld (some 4) (.t 3), none, 0⟩,
    ⟨(some 38), .call 29 [(.t 37)] 0, none, 0⟩,
    ⟨(some 7), .mv (.t 38), none, 0⟩] 0 none) (.seq (.seq (.reg [
    ⟨(some 39), .mv (.t 7), none, 0⟩,
    ⟨(some 40), .len false (.t 39), none, 0⟩,
    ⟨(some 41), .bin .neq (.t 40) (.c (.p (.o (.int .i64 12)))), none, 0⟩,
    ⟨(some 42), .mv (.t 41), none, 0⟩,
    ⟨(some 43), .ld (some 4) (.t 3), (some (42, false)), 0⟩,
    ⟨(some 44), .call 27 [(.t 43)] 0, (some (42, false)), 0⟩,
    ⟨(some 45), .call 29 [(.t 44)] 0, (some (42, false)), 0⟩,
    ⟨(some 46), .mv (.t 7), (some (42, false)), 0⟩,
    ⟨(some 47), .sls (.t 46) (some (.c (.p (.o (.int .i64 4))))) (some (.c (.p (.o (.int .i64 8))))), (some (42, false)), 0⟩,
    ⟨(some 48), .mv (.t 7), (some (42, false)), 0⟩,
    ⟨(some 49), .sls (.t 48) none (some (.c (.p (.o (.int .i64 4))))), (some (42, false)), 0⟩,
    ⟨(some 50), .bin .add (.t 47) (.t 49), (some (42, false)), 0⟩,
    ⟨(some 51), .mv (.t 7), (some (42, false)), 0⟩,
    ⟨(some 52), .sls (.t 51) (some (.c (.p (.o (.int .i64 10))))) none, (some (42, false)), 0⟩,
    ⟨(some 53), .bin .add (.t 50) (.t 52), (some (42, false)), 0⟩,
    ⟨(some 54), .mv (.t 7), (some (42, false)), 0⟩,
    ⟨(some 55), .sls (.t 54) (some (.c (.p (.o (.int .i64 8))))) (some (.c (.p (.o (.int .i64 10))))), (some (42, false)), 0⟩,
    ⟨(some 56), .bin .add (.t 53) (.t 55), (some (42, false)), 0⟩,
    ⟨(some 57), .bin .neq (.t 45) (.t 56), (some (42, false)), 0⟩,
    ⟨(some 58), .pick (.t 42) (.c (.p (.o (.bool true)))) (.t 57), none, 0⟩] 0 (some [(4, 7), (5, 7), (6, 7), (4, 8), (5, 8), (6, 8), (4, 9), (5, 9), (6, 9), (7, 9), (8, 9), (4, 10), (5, 10), (6, 10), (7, 10), (8, 10), (4, 11), (5, 11), (6, 11), (4, 12), (5, 12), (6, 12), (7, 12), (8, 12), (9, 12), (10, 12), (11, 12), (4, 13), (5, 13), (6, 13), (7, 13), (8, 13), (9, 13), (10, 13), (11, 13), (4, 14), (5, 14), (6, 14), (4, 15), (5, 15), (6, 15), (7, 15), (8, 15), (9, 15), (10, 15), (11, 15), (12, 15), (13, 15), (14, 15), (4, 16), (5, 16), (6, 16), (7, 16), (8, 16), (9, 16), (10, 16), (11, 16), (12, 16), (13, 16), (14, 16), (4, 17), (5, 17), (6, 17)])) (.cond (.t 58) (.seq (.reg [
    ⟨(some 6), .mv (.c (.p (.o (.bool false)))), none, 0⟩] 0 none) .ret) .skip)) (.seq (.reg [
    ⟨(some 59), .ld (some 4) (.t 3), none, 0⟩,
    ⟨(some 60), .ld (some 4) (.t 4), none, 0⟩,
    ⟨(some 61), .call 31 [(.t 59), (.t 60)] 0, none, 0⟩,
    ⟨(some 8), .mv (.t 61), none, 0⟩] 0 none) (.seq (.reg [
    ⟨(some 62), .mv (.t 8), none, 0⟩,
    ⟨(some 63), .ld (some 4) (.t 4), none, 0⟩,
    ⟨(some 64), .ld (some 4) (.t 3), none, 0⟩,
    ⟨(some 65), .call 31 [(.t 63), (.t 64)] 0, none, 0⟩,
    ⟨(some 66), .un .neg (.t 65), none, 0⟩,
    ⟨(some 67), .bin .eql (.t 62) (.t 66), none, 0⟩,
    ⟨(some 68), .mv (.t 67), none, 0⟩,
    ⟨(some 69), .mv (.t 8), (some (68, true)), 0⟩,
    ⟨(some 70), .bin .eql (.t 69) (.c (.p (.o (.int .i64 0)))), (some (68, true)), 0⟩,
    ⟨(some 71), .ld (some 4) (.t 3), (some (68, true)), 0⟩,
    ⟨(some 72), .ld (some 4) (.t 4), (some (68, true)), 0⟩,
    ⟨(some 73), .eq (.flat [.int .u32, .int .u16, .int .u32, .int .u16]) false (.t 71) (.t 72), (some (68, true)), 0⟩,
    ⟨(some 74), .eq .bool false (.t 70) (.t 73), (some (68, true)), 0⟩,
    ⟨(some 75), .pick (.t 68) (.t 74) (.c (.p (.o (.bool false)))), none, 0⟩,
    ⟨(some 76), .mv (.t 75), none, 0⟩,
    ⟨(some 77), .mv (.t 8), (some (76, true)), 0⟩,
    ⟨(some 78), .bin .gtr (.t 77) (.c (.p (.o (.int .i64 0)))), (some (76, true)), 0⟩,
    ⟨(some 79), .mv (.t 78), (some (76, true)), 0⟩,
    ⟨(some 80), .ld (some 4) (.t 4), (some (79, false)), 0⟩,
    ⟨(some 81), .ld (some 4) (.t 5), (some (79, false)), 0⟩,
    ⟨(some 82), .call 31 [(.t 80), (.t 81)] 0, (some (79, false)), 0⟩,
    ⟨(some 83), .bin .gtr (.t 82) (.c (.p (.o (.int .i64 0)))), (some (79, false)), 0⟩,
    ⟨(some 84), .pick (.t 79) (.c (.p (.o (.bool true)))) (.t 83), (some (76, true)), 0⟩,
    ⟨(some 85), .mv (.t 84), (some (76, true)), 0⟩,
    ⟨(some 86), .ld (some 4) (.t 3), (some (85, false)), 0⟩,
    ⟨(some 87), .ld (some 4) (.t 5), (some (85, false)), 0⟩,
    ⟨(some 88), .call 31 [(.t 86), (.t 87)] 0, (some (85, false)), 0⟩,
    ⟨(some 89), .bin .leq (.t 88) (.c (.p (.o (.int .i64 0)))), (some (85, false)), 0⟩,
    ⟨(some 90), .pick (.t 85) (.c (.p (.o (.bool true)))) (.t 89), (some (76, true)), 0⟩,
    ⟨(some 91), .pick (.t 76) (.t 90) (.c (.p (.o (.bool false)))), none, 0⟩,
    ⟨(some 92), .mv (.t 91), none, 0⟩,
    ⟨(some 93), .call 16 [] 0, (some (92, true)), 0⟩,
    ⟨(some 94), .pick (.t 92) (.t 93) (.c (.p (.o (.bool false)))), none, 0⟩,
    ⟨(some 6), .mv (.t 94), none, 0⟩] 0 none) .ret)))))),
  [.tmp 6], 95, [0, 1, 2, 3, 4, 5, 6, 7, 8]⟩
theorem ok_law06_AddrOrder : cFn Tryd.prog eqsT newsT vf_law06_AddrOrder.keep Tryd.f8 = some vf_law06_AddrOrder := by kernel_rfl
set_option maxHeartbeats 4000000 in
theorem tells (hG : Tabs G) (ip : Int) (s : ByteArray) (hq : 0 ≤ ip ∧ ip ≤ 4294967295) : Det G Tryd.prog 4 [.o (.int .u32 ip), .o (.str s)] [] (vB true) [] := by
  have he := errA_or s
  refine can_of_W known mix Tryd.func4 (by kernel_rfl) ok_law06_AddrTells (Nat.le_of_ble_eq_true rfl) ?_
  repeat' ((conv => whnf); first
    | ((with_reducible refine Look.mk ?_); refine ⟨_, rfl, ?_⟩)
    | ((with_reducible refine LookN.zeros ?_))
    | ((with_reducible refine LookN.bytes ?_ ?_); (simp; done))
    | ((with_reducible refine BytesW.bytes ?_))
    | ((with_reducible refine Look.byte ?_ ?_); omega)
    | ((with_reducible refine Look.setb ?_ ?_ ?_); exact bv8_bd _; omega)
    | ((with_reducible refine LookN.setb ?_ ?_ ?_); exact bv8_bd _; omega)
    | ((with_reducible refine LookN.mk ?_); refine ⟨_, rfl, ?_⟩)
    | ((with_reducible refine Need.mk ?_ ?_); first | ((with_reducible refine needB ?_); kernel_rfl) | with_reducible rfl | omega | (with_reducible refine ⟨rfl, ?_⟩; focus omega) | (simp only [ByteArray.size_append, size_lit, List.size_toArray, List.length_cons, List.length_nil, Sp.ofB_size, ByteArray.size_extract]; omega) | exact rfl | trivial | exact Nat.le_of_ble_eq_true rfl | (exact ⟨rfl, by omega⟩) | (intro h; first | rfl | cases h) | (simp only [lenS_text, lenS_setN, lenS_zeros]; omega))
    | ((with_reducible refine BytesW.mk ?_); refine ⟨_, rfl, ?_⟩)
    | (with_reducible refine CallW.det (alive_det hG) ?_)
    | (with_reducible refine CallW.det (aparse_det hG _ (by omega)) ?_)
    | (with_reducible refine CallW.det (rparse_det' _ (by omega)) ?_)
    | (with_reducible refine CallW.det (text_det hG _ hq) ?_)
    | (with_reducible refine CallW.det (rtext_det _ hq) ?_)
    | (with_reducible refine CallW.det (kind_det _ hq) ?_)
    | (with_reducible refine CallW.det (rkind_det _ hq) ?_)
    | ((with_reducible refine Test.tmodEqT ?_ ?_ ?_); omega; focus first | omega | assumption)
    | ((with_reducible refine Test.tmodEqF ?_ ?_ ?_); omega; focus first | omega | assumption)
    | ((with_reducible refine Test.tmodNeT ?_ ?_ ?_); omega; focus first | omega | assumption)
    | ((with_reducible refine Test.tmodNeF ?_ ?_ ?_); omega; focus first | omega | assumption)
    | ((with_reducible refine Test.tmodEq ?_ (fun h => ?_) (fun h => ?_)); omega)
    | ((with_reducible refine Test.tmodNe ?_ (fun h => ?_) (fun h => ?_)); omega)
    | ((with_reducible refine Test.notT ?_ ?_); focus assumption)
    | ((with_reducible refine Test.notF ?_ ?_); focus assumption)
    | (with_reducible refine Test.notIe (fun h => ?_) (fun h => ?_))
    | (with_reducible refine Test.notD (fun h => ?_) (fun h => ?_))
    | ((with_reducible refine Test.empty (fun h => ?_) (fun h => ?_)))
    | (with_reducible refine Test.tt ?_)
    | (with_reducible refine Test.ff ?_)
    | ((with_reducible refine Test.dt ?_ ?_); omega)
    | ((with_reducible refine Test.df ?_ ?_); omega)
    | (with_reducible refine Test.d (fun h => ?_) (fun h => ?_))
    | ((with_reducible refine Test.ieT ?_ ?_); omega)
    | ((with_reducible refine Test.ieF ?_ ?_); omega)
    | ((with_reducible refine Test.neT ?_ ?_); omega)
    | ((with_reducible refine Test.neF ?_ ?_); omega)
    | (with_reducible refine Test.ie (fun h => ?_) (fun h => ?_))
    | (with_reducible refine Test.ne (fun h => ?_) (fun h => ?_))
    | ((with_reducible refine Test.b ?_ ?_); (focus first | assumption | (simp [negB]; done) | exact rfl | (rw [val_back (by assumption)]; simp; done)))
    | ((with_reducible refine Test.nb ?_ ?_); (focus first | assumption | (simp [negB]; done) | exact rfl | (rw [val_back (by assumption)]; simp; done)))
    | (with_reducible refine Test.notS (fun h => ?_) (fun h => ?_))
    | (with_reducible refine Test.mk (fun h => ?_) (fun h => ?_))
    | ((with_reducible refine Arith.tdiv ?_ ?_); omega)
    | (with_reducible refine Arith.bv8 ?_)
    | (with_reducible refine Arith.bv16 ?_)
    | (with_reducible refine Arith.bv32 ?_)
    | (with_reducible refine Arith.bv64 ?_)
    | ((with_reducible refine Arith.i64 ?_ ?_); omega)
    | ((with_reducible refine Arith.u64 ?_ ?_); omega)
    | ((with_reducible refine Arith.u32 ?_ ?_); omega)
    | ((with_reducible refine Arith.u16 ?_ ?_); omega)
    | ((with_reducible refine Arith.u8 ?_ ?_); omega)
    | ((with_reducible refine Arith.i32 ?_ ?_); omega)
    | ((with_reducible refine Arith.i64 ?_ ?_); simp (discharger := omega) only [Int.tdiv_eq_ediv_of_nonneg, shr_u8_4, shl_u8_4, shr_u16_4, shl_u16_4, shr_u16_8, shl_u16_8, shr_u32_4, shl_u32_4, shr_u32_8, shl_u32_8, shr_u32_16, shl_u32_16, shr_u32_24, shl_u32_24, shr_u64_4, shl_u64_4, shr_u64_8, shl_u64_8, shr_u64_16, shl_u64_16, shr_u64_24, shl_u64_24, shr_u64_40, shl_u64_40, shr_i64_4, shl_i64_4, shr_i64_8, shl_i64_8, shr_i64_16, shl_i64_16, shr_i64_24, shl_i64_24, shr_i64_40, shl_i64_40]; omega)
    | ((with_reducible refine Arith.u64 ?_ ?_); simp (discharger := omega) only [Int.tdiv_eq_ediv_of_nonneg, shr_u8_4, shl_u8_4, shr_u16_4, shl_u16_4, shr_u16_8, shl_u16_8, shr_u32_4, shl_u32_4, shr_u32_8, shl_u32_8, shr_u32_16, shl_u32_16, shr_u32_24, shl_u32_24, shr_u64_4, shl_u64_4, shr_u64_8, shl_u64_8, shr_u64_16, shl_u64_16, shr_u64_24, shl_u64_24, shr_u64_40, shl_u64_40, shr_i64_4, shl_i64_4, shr_i64_8, shl_i64_8, shr_i64_16, shl_i64_16, shr_i64_24, shl_i64_24, shr_i64_40, shl_i64_40]; omega)
    | ((with_reducible refine Arith.u32 ?_ ?_); simp (discharger := omega) only [Int.tdiv_eq_ediv_of_nonneg, shr_u8_4, shl_u8_4, shr_u16_4, shl_u16_4, shr_u16_8, shl_u16_8, shr_u32_4, shl_u32_4, shr_u32_8, shl_u32_8, shr_u32_16, shl_u32_16, shr_u32_24, shl_u32_24, shr_u64_4, shl_u64_4, shr_u64_8, shl_u64_8, shr_u64_16, shl_u64_16, shr_u64_24, shl_u64_24, shr_u64_40, shl_u64_40, shr_i64_4, shl_i64_4, shr_i64_8, shl_i64_8, shr_i64_16, shl_i64_16, shr_i64_24, shl_i64_24, shr_i64_40, shl_i64_40]; omega)
    | ((with_reducible refine Arith.u16 ?_ ?_); simp (discharger := omega) only [Int.tdiv_eq_ediv_of_nonneg, shr_u8_4, shl_u8_4, shr_u16_4, shl_u16_4, shr_u16_8, shl_u16_8, shr_u32_4, shl_u32_4, shr_u32_8, shl_u32_8, shr_u32_16, shl_u32_16, shr_u32_24, shl_u32_24, shr_u64_4, shl_u64_4, shr_u64_8, shl_u64_8, shr_u64_16, shl_u64_16, shr_u64_24, shl_u64_24, shr_u64_40, shl_u64_40, shr_i64_4, shl_i64_4, shr_i64_8, shl_i64_8, shr_i64_16, shl_i64_16, shr_i64_24, shl_i64_24, shr_i64_40, shl_i64_40]; omega)
    | ((with_reducible refine Arith.u8 ?_ ?_); simp (discharger := omega) only [Int.tdiv_eq_ediv_of_nonneg, shr_u8_4, shl_u8_4, shr_u16_4, shl_u16_4, shr_u16_8, shl_u16_8, shr_u32_4, shl_u32_4, shr_u32_8, shl_u32_8, shr_u32_16, shl_u32_16, shr_u32_24, shl_u32_24, shr_u64_4, shl_u64_4, shr_u64_8, shl_u64_8, shr_u64_16, shl_u64_16, shr_u64_24, shl_u64_24, shr_u64_40, shl_u64_40, shr_i64_4, shl_i64_4, shr_i64_8, shl_i64_8, shr_i64_16, shl_i64_16, shr_i64_24, shl_i64_24, shr_i64_40, shl_i64_40]; omega)
    | (with_reducible refine Arith.mk ?_)
    | (with_reducible refine Ends.mk ?_))
  all_goals first | exact ⟨rfl, rfl⟩ | (exfalso; simp_all; done) | (exfalso; omega)
set_option maxHeartbeats 4000000 in
theorem pairs (hG : Tabs G) (ip net bits a b c d p q r s : Int) (h1 : 0 ≤ ip ∧ ip ≤ 4294967295) (h2 : 0 ≤ net ∧ net ≤ 4294967295) (h : -9223372036854775808 ≤ bits ∧ bits ≤ 9223372036854775807) (k1 : okP a b c d) (k2 : okP p q r s) : Det G Tryd.prog 5 [.o (.int .u32 ip), .o (.int .u32 net), .o (.int .i64 bits), .a (pair a b c d), .a (pair p q r s)] [] (vB true) [] := by
  refine can_of_W known mix Tryd.func5 (by kernel_rfl) ok_law06_AddrPairs (Nat.le_of_ble_eq_true rfl) ?_
  repeat' ((conv => whnf); first
    | ((with_reducible refine Look.mk ?_); refine ⟨_, rfl, ?_⟩)
    | ((with_reducible refine LookN.zeros ?_))
    | ((with_reducible refine LookN.bytes ?_ ?_); (simp; done))
    | ((with_reducible refine BytesW.bytes ?_))
    | ((with_reducible refine Look.byte ?_ ?_); omega)
    | ((with_reducible refine Look.setb ?_ ?_ ?_); exact bv8_bd _; omega)
    | ((with_reducible refine LookN.setb ?_ ?_ ?_); exact bv8_bd _; omega)
    | ((with_reducible refine LookN.mk ?_); refine ⟨_, rfl, ?_⟩)
    | ((with_reducible refine Need.mk ?_ ?_); first | ((with_reducible refine needB ?_); kernel_rfl) | with_reducible rfl | omega | (with_reducible refine ⟨rfl, ?_⟩; focus omega) | (simp only [ByteArray.size_append, size_lit, List.size_toArray, List.length_cons, List.length_nil, Sp.ofB_size, ByteArray.size_extract]; omega) | exact rfl | trivial | exact Nat.le_of_ble_eq_true rfl | (exact ⟨rfl, by omega⟩) | (intro h; first | rfl | cases h) | (simp only [lenS_text, lenS_setN, lenS_zeros]; omega))
    | ((with_reducible refine BytesW.mk ?_); refine ⟨_, rfl, ?_⟩)
    | (with_reducible refine CallW.det (alive_det hG) ?_)
    | (with_reducible refine CallW.det (mask_det _ h) ?_)
    | (with_reducible refine CallW.det (rmask_det _ h) ?_)
    | (with_reducible refine CallW.det (in_det _ _ _ h1 h2 h) ?_)
    | (with_reducible refine CallW.det (rin_det _ _ _ h1 h2 h) ?_)
    | (with_reducible refine CallW.det (turn_det _ _ _ _) ?_)
    | (with_reducible refine CallW.det (rturn_det _ _ _ _) ?_)
    | (with_reducible refine CallW.det (bytes_det _ _ _ _ k1) ?_)
    | (with_reducible refine CallW.det (rbytes_det _ _ _ _ k1) ?_)
    | (with_reducible refine CallW.det (compare_det _ _ _ _ k1 _ _ _ _ k2) ?_)
    | (with_reducible refine CallW.det (rcompare_det _ _ _ _ k1 _ _ _ _ k2) ?_)
    | ((with_reducible refine Test.tmodEqT ?_ ?_ ?_); omega; focus first | omega | assumption)
    | ((with_reducible refine Test.tmodEqF ?_ ?_ ?_); omega; focus first | omega | assumption)
    | ((with_reducible refine Test.tmodNeT ?_ ?_ ?_); omega; focus first | omega | assumption)
    | ((with_reducible refine Test.tmodNeF ?_ ?_ ?_); omega; focus first | omega | assumption)
    | ((with_reducible refine Test.tmodEq ?_ (fun h => ?_) (fun h => ?_)); omega)
    | ((with_reducible refine Test.tmodNe ?_ (fun h => ?_) (fun h => ?_)); omega)
    | ((with_reducible refine Test.notT ?_ ?_); focus assumption)
    | ((with_reducible refine Test.notF ?_ ?_); focus assumption)
    | (with_reducible refine Test.notIe (fun h => ?_) (fun h => ?_))
    | (with_reducible refine Test.notD (fun h => ?_) (fun h => ?_))
    | ((with_reducible refine Test.empty (fun h => ?_) (fun h => ?_)))
    | (with_reducible refine Test.tt ?_)
    | (with_reducible refine Test.ff ?_)
    | ((with_reducible refine Test.dt ?_ ?_); omega)
    | ((with_reducible refine Test.df ?_ ?_); omega)
    | (with_reducible refine Test.d (fun h => ?_) (fun h => ?_))
    | ((with_reducible refine Test.ieT ?_ ?_); omega)
    | ((with_reducible refine Test.ieF ?_ ?_); omega)
    | ((with_reducible refine Test.neT ?_ ?_); omega)
    | ((with_reducible refine Test.neF ?_ ?_); omega)
    | (with_reducible refine Test.ie (fun h => ?_) (fun h => ?_))
    | (with_reducible refine Test.ne (fun h => ?_) (fun h => ?_))
    | ((with_reducible refine Test.b ?_ ?_); (focus first | assumption | (simp [negB]; done) | exact rfl | (rw [val_back (by assumption)]; simp; done)))
    | ((with_reducible refine Test.nb ?_ ?_); (focus first | assumption | (simp [negB]; done) | exact rfl | (rw [val_back (by assumption)]; simp; done)))
    | (with_reducible refine Test.notS (fun h => ?_) (fun h => ?_))
    | (with_reducible refine Test.mk (fun h => ?_) (fun h => ?_))
    | ((with_reducible refine Arith.tdiv ?_ ?_); omega)
    | (with_reducible refine Arith.bv8 ?_)
    | (with_reducible refine Arith.bv16 ?_)
    | (with_reducible refine Arith.bv32 ?_)
    | (with_reducible refine Arith.bv64 ?_)
    | ((with_reducible refine Arith.i64 ?_ ?_); omega)
    | ((with_reducible refine Arith.u64 ?_ ?_); omega)
    | ((with_reducible refine Arith.u32 ?_ ?_); omega)
    | ((with_reducible refine Arith.u16 ?_ ?_); omega)
    | ((with_reducible refine Arith.u8 ?_ ?_); omega)
    | ((with_reducible refine Arith.i32 ?_ ?_); omega)
    | ((with_reducible refine Arith.i64 ?_ ?_); simp (discharger := omega) only [Int.tdiv_eq_ediv_of_nonneg, shr_u8_4, shl_u8_4, shr_u16_4, shl_u16_4, shr_u16_8, shl_u16_8, shr_u32_4, shl_u32_4, shr_u32_8, shl_u32_8, shr_u32_16, shl_u32_16, shr_u32_24, shl_u32_24, shr_u64_4, shl_u64_4, shr_u64_8, shl_u64_8, shr_u64_16, shl_u64_16, shr_u64_24, shl_u64_24, shr_u64_40, shl_u64_40, shr_i64_4, shl_i64_4, shr_i64_8, shl_i64_8, shr_i64_16, shl_i64_16, shr_i64_24, shl_i64_24, shr_i64_40, shl_i64_40]; omega)
    | ((with_reducible refine Arith.u64 ?_ ?_); simp (discharger := omega) only [Int.tdiv_eq_ediv_of_nonneg, shr_u8_4, shl_u8_4, shr_u16_4, shl_u16_4, shr_u16_8, shl_u16_8, shr_u32_4, shl_u32_4, shr_u32_8, shl_u32_8, shr_u32_16, shl_u32_16, shr_u32_24, shl_u32_24, shr_u64_4, shl_u64_4, shr_u64_8, shl_u64_8, shr_u64_16, shl_u64_16, shr_u64_24, shl_u64_24, shr_u64_40, shl_u64_40, shr_i64_4, shl_i64_4, shr_i64_8, shl_i64_8, shr_i64_16, shl_i64_16, shr_i64_24, shl_i64_24, shr_i64_40, shl_i64_40]; omega)
    | ((with_reducible refine Arith.u32 ?_ ?_); simp (discharger := omega) only [Int.tdiv_eq_ediv_of_nonneg, shr_u8_4, shl_u8_4, shr_u16_4, shl_u16_4, shr_u16_8, shl_u16_8, shr_u32_4, shl_u32_4, shr_u32_8, shl_u32_8, shr_u32_16, shl_u32_16, shr_u32_24, shl_u32_24, shr_u64_4, shl_u64_4, shr_u64_8, shl_u64_8, shr_u64_16, shl_u64_16, shr_u64_24, shl_u64_24, shr_u64_40, shl_u64_40, shr_i64_4, shl_i64_4, shr_i64_8, shl_i64_8, shr_i64_16, shl_i64_16, shr_i64_24, shl_i64_24, shr_i64_40, shl_i64_40]; omega)
    | ((with_reducible refine Arith.u16 ?_ ?_); simp (discharger := omega) only [Int.tdiv_eq_ediv_of_nonneg, shr_u8_4, shl_u8_4, shr_u16_4, shl_u16_4, shr_u16_8, shl_u16_8, shr_u32_4, shl_u32_4, shr_u32_8, shl_u32_8, shr_u32_16, shl_u32_16, shr_u32_24, shl_u32_24, shr_u64_4, shl_u64_4, shr_u64_8, shl_u64_8, shr_u64_16, shl_u64_16, shr_u64_24, shl_u64_24, shr_u64_40, shl_u64_40, shr_i64_4, shl_i64_4, shr_i64_8, shl_i64_8, shr_i64_16, shl_i64_16, shr_i64_24, shl_i64_24, shr_i64_40, shl_i64_40]; omega)
    | ((with_reducible refine Arith.u8 ?_ ?_); simp (discharger := omega) only [Int.tdiv_eq_ediv_of_nonneg, shr_u8_4, shl_u8_4, shr_u16_4, shl_u16_4, shr_u16_8, shl_u16_8, shr_u32_4, shl_u32_4, shr_u32_8, shl_u32_8, shr_u32_16, shl_u32_16, shr_u32_24, shl_u32_24, shr_u64_4, shl_u64_4, shr_u64_8, shl_u64_8, shr_u64_16, shl_u64_16, shr_u64_24, shl_u64_24, shr_u64_40, shl_u64_40, shr_i64_4, shl_i64_4, shr_i64_8, shl_i64_8, shr_i64_16, shl_i64_16, shr_i64_24, shl_i64_24, shr_i64_40, shl_i64_40]; omega)
    | (with_reducible refine Arith.mk ?_)
    | (with_reducible refine Ends.mk ?_))
  all_goals first | exact ⟨rfl, rfl⟩ | (exfalso; simp_all; done) | (exfalso; omega)
set_option maxHeartbeats 4000000 in
theorem back_ (hG : Tabs G) (a b : Int) (s : ByteArray) (h1 : 0 ≤ a ∧ a ≤ 4294967295) (h2 : 0 ≤ b ∧ b ≤ 4294967295) : Det G Tryd.prog 6 [.o (.int .u32 a), .o (.int .u32 b), .o (.str s)] [] (vB true) [] := by
  have he := errA_or s
  have ht := text_size h1
  have hi : (((textB a).toList == (textB b).toList) == (a == b)) = true := by
    rw [beq_bytes, beq_iff_eq, Bool.eq_iff_iff, decide_eq_true_iff, beq_iff_eq]; exact text_inj h1 h2
  refine can_of_W known mix Tryd.func6 (by kernel_rfl) ok_law06_AddrBack (Nat.le_of_ble_eq_true rfl) ?_
  repeat' ((conv => whnf); first
    | ((with_reducible refine Look.mk ?_); refine ⟨_, rfl, ?_⟩)
    | ((with_reducible refine LookN.zeros ?_))
    | ((with_reducible refine LookN.bytes ?_ ?_); (simp; done))
    | ((with_reducible refine BytesW.bytes ?_))
    | ((with_reducible refine Look.byte ?_ ?_); omega)
    | ((with_reducible refine Look.setb ?_ ?_ ?_); exact bv8_bd _; omega)
    | ((with_reducible refine LookN.setb ?_ ?_ ?_); exact bv8_bd _; omega)
    | ((with_reducible refine LookN.mk ?_); refine ⟨_, rfl, ?_⟩)
    | ((with_reducible refine Need.mk ?_ ?_); first | ((with_reducible refine needB ?_); kernel_rfl) | with_reducible rfl | omega | (with_reducible refine ⟨rfl, ?_⟩; focus omega) | (simp only [ByteArray.size_append, size_lit, List.size_toArray, List.length_cons, List.length_nil, Sp.ofB_size, ByteArray.size_extract]; omega) | exact rfl | trivial | exact Nat.le_of_ble_eq_true rfl | (exact ⟨rfl, by omega⟩) | (intro h; first | rfl | cases h) | (simp only [lenS_text, lenS_setN, lenS_zeros]; omega))
    | ((with_reducible refine BytesW.mk ?_); refine ⟨_, rfl, ?_⟩)
    | (with_reducible refine CallW.det (alive_det hG) ?_)
    | (with_reducible refine CallW.det (aparse_text hG _ h1) ?_)
    | (with_reducible refine CallW.det (aparse_det hG _ (by omega)) ?_)
    | (with_reducible refine CallW.det (text_det hG _ h1) ?_)
    | (with_reducible refine CallW.det (text_det hG _ h2) ?_)
    | (with_reducible refine CallW.det (text_det hG _ (valA_bd s)) ?_)
    | ((with_reducible refine Test.tmodEqT ?_ ?_ ?_); omega; focus first | omega | assumption)
    | ((with_reducible refine Test.tmodEqF ?_ ?_ ?_); omega; focus first | omega | assumption)
    | ((with_reducible refine Test.tmodNeT ?_ ?_ ?_); omega; focus first | omega | assumption)
    | ((with_reducible refine Test.tmodNeF ?_ ?_ ?_); omega; focus first | omega | assumption)
    | ((with_reducible refine Test.tmodEq ?_ (fun h => ?_) (fun h => ?_)); omega)
    | ((with_reducible refine Test.tmodNe ?_ (fun h => ?_) (fun h => ?_)); omega)
    | ((with_reducible refine Test.notT ?_ ?_); focus assumption)
    | ((with_reducible refine Test.notF ?_ ?_); focus assumption)
    | (with_reducible refine Test.notIe (fun h => ?_) (fun h => ?_))
    | (with_reducible refine Test.notD (fun h => ?_) (fun h => ?_))
    | ((with_reducible refine Test.empty (fun h => ?_) (fun h => ?_)))
    | (with_reducible refine Test.tt ?_)
    | (with_reducible refine Test.ff ?_)
    | ((with_reducible refine Test.dt ?_ ?_); omega)
    | ((with_reducible refine Test.df ?_ ?_); omega)
    | (with_reducible refine Test.d (fun h => ?_) (fun h => ?_))
    | ((with_reducible refine Test.ieT ?_ ?_); omega)
    | ((with_reducible refine Test.ieF ?_ ?_); omega)
    | ((with_reducible refine Test.neT ?_ ?_); omega)
    | ((with_reducible refine Test.neF ?_ ?_); omega)
    | (with_reducible refine Test.ie (fun h => ?_) (fun h => ?_))
    | (with_reducible refine Test.ne (fun h => ?_) (fun h => ?_))
    | ((with_reducible refine Test.b ?_ ?_); (focus first | assumption | (simp [negB]; done) | exact rfl | (rw [val_back (by assumption)]; simp; done)))
    | ((with_reducible refine Test.nb ?_ ?_); (focus first | assumption | (simp [negB]; done) | exact rfl | (rw [val_back (by assumption)]; simp; done)))
    | (with_reducible refine Test.notS (fun h => ?_) (fun h => ?_))
    | (with_reducible refine Test.mk (fun h => ?_) (fun h => ?_))
    | ((with_reducible refine Arith.tdiv ?_ ?_); omega)
    | (with_reducible refine Arith.bv8 ?_)
    | (with_reducible refine Arith.bv16 ?_)
    | (with_reducible refine Arith.bv32 ?_)
    | (with_reducible refine Arith.bv64 ?_)
    | ((with_reducible refine Arith.i64 ?_ ?_); omega)
    | ((with_reducible refine Arith.u64 ?_ ?_); omega)
    | ((with_reducible refine Arith.u32 ?_ ?_); omega)
    | ((with_reducible refine Arith.u16 ?_ ?_); omega)
    | ((with_reducible refine Arith.u8 ?_ ?_); omega)
    | ((with_reducible refine Arith.i32 ?_ ?_); omega)
    | ((with_reducible refine Arith.i64 ?_ ?_); simp (discharger := omega) only [Int.tdiv_eq_ediv_of_nonneg, shr_u8_4, shl_u8_4, shr_u16_4, shl_u16_4, shr_u16_8, shl_u16_8, shr_u32_4, shl_u32_4, shr_u32_8, shl_u32_8, shr_u32_16, shl_u32_16, shr_u32_24, shl_u32_24, shr_u64_4, shl_u64_4, shr_u64_8, shl_u64_8, shr_u64_16, shl_u64_16, shr_u64_24, shl_u64_24, shr_u64_40, shl_u64_40, shr_i64_4, shl_i64_4, shr_i64_8, shl_i64_8, shr_i64_16, shl_i64_16, shr_i64_24, shl_i64_24, shr_i64_40, shl_i64_40]; omega)
    | ((with_reducible refine Arith.u64 ?_ ?_); simp (discharger := omega) only [Int.tdiv_eq_ediv_of_nonneg, shr_u8_4, shl_u8_4, shr_u16_4, shl_u16_4, shr_u16_8, shl_u16_8, shr_u32_4, shl_u32_4, shr_u32_8, shl_u32_8, shr_u32_16, shl_u32_16, shr_u32_24, shl_u32_24, shr_u64_4, shl_u64_4, shr_u64_8, shl_u64_8, shr_u64_16, shl_u64_16, shr_u64_24, shl_u64_24, shr_u64_40, shl_u64_40, shr_i64_4, shl_i64_4, shr_i64_8, shl_i64_8, shr_i64_16, shl_i64_16, shr_i64_24, shl_i64_24, shr_i64_40, shl_i64_40]; omega)
    | ((with_reducible refine Arith.u32 ?_ ?_); simp (discharger := omega) only [Int.tdiv_eq_ediv_of_nonneg, shr_u8_4, shl_u8_4, shr_u16_4, shl_u16_4, shr_u16_8, shl_u16_8, shr_u32_4, shl_u32_4, shr_u32_8, shl_u32_8, shr_u32_16, shl_u32_16, shr_u32_24, shl_u32_24, shr_u64_4, shl_u64_4, shr_u64_8, shl_u64_8, shr_u64_16, shl_u64_16, shr_u64_24, shl_u64_24, shr_u64_40, shl_u64_40, shr_i64_4, shl_i64_4, shr_i64_8, shl_i64_8, shr_i64_16, shl_i64_16, shr_i64_24, shl_i64_24, shr_i64_40, shl_i64_40]; omega)
    | ((with_reducible refine Arith.u16 ?_ ?_); simp (discharger := omega) only [Int.tdiv_eq_ediv_of_nonneg, shr_u8_4, shl_u8_4, shr_u16_4, shl_u16_4, shr_u16_8, shl_u16_8, shr_u32_4, shl_u32_4, shr_u32_8, shl_u32_8, shr_u32_16, shl_u32_16, shr_u32_24, shl_u32_24, shr_u64_4, shl_u64_4, shr_u64_8, shl_u64_8, shr_u64_16, shl_u64_16, shr_u64_24, shl_u64_24, shr_u64_40, shl_u64_40, shr_i64_4, shl_i64_4, shr_i64_8, shl_i64_8, shr_i64_16, shl_i64_16, shr_i64_24, shl_i64_24, shr_i64_40, shl_i64_40]; omega)
    | ((with_reducible refine Arith.u8 ?_ ?_); simp (discharger := omega) only [Int.tdiv_eq_ediv_of_nonneg, shr_u8_4, shl_u8_4, shr_u16_4, shl_u16_4, shr_u16_8, shl_u16_8, shr_u32_4, shl_u32_4, shr_u32_8, shl_u32_8, shr_u32_16, shl_u32_16, shr_u32_24, shl_u32_24, shr_u64_4, shl_u64_4, shr_u64_8, shl_u64_8, shr_u64_16, shl_u64_16, shr_u64_24, shl_u64_24, shr_u64_40, shl_u64_40, shr_i64_4, shl_i64_4, shr_i64_8, shl_i64_8, shr_i64_16, shl_i64_16, shr_i64_24, shl_i64_24, shr_i64_40, shl_i64_40]; omega)
    | (with_reducible refine Arith.mk ?_)
    | (with_reducible refine Ends.mk ?_))
  all_goals first | exact ⟨rfl, rfl⟩ | (exfalso; simp_all; done) | (exfalso; omega)
set_option maxHeartbeats 8000000 in
theorem nets (hG : Tabs G) (ip a b n m : Int) (h1 : 0 ≤ ip ∧ ip ≤ 4294967295) (h2 : 0 ≤ a ∧ a ≤ 4294967295) (h3 : 0 ≤ b ∧ b ≤ 4294967295) (hn : 0 ≤ n ∧ n ≤ 255) (hm : 0 ≤ m ∧ m ≤ 255) :
    Det G Tryd.prog 7 [.o (.int .u32 ip), .o (.int .u32 a), .o (.int .u32 b), .o (.int .u8 n), .o (.int .u8 m)] [] (vB true) [] := by
  have hx : 0 ≤ n.tmod 33 ∧ n.tmod 33 ≤ 32 := by rw [Int.tmod_eq_emod_of_nonneg hn.1]; omega
  have hy : 0 ≤ m.tmod 33 ∧ m.tmod 33 ≤ 32 := by rw [Int.tmod_eq_emod_of_nonneg hm.1]; omega
  by_cases hxy : n.tmod 33 ≤ m.tmod 33
  · have f1 := fun h => in_less (p := ip) (q := a) (x := n.tmod 33) (y := m.tmod 33) (by omega) h
    have f2 := in_self ip (m.tmod 33)
    have f3 := in_zero h1 h2
    have f4 : negB true (inP ip a 32 == (ip == a)) = false := by rw [in_all]; simp [negB]
    have f5 := mask_and' (x := n.tmod 33) (y := m.tmod 33) (by omega)
    have f6 : negB true ((maskN (clampN (n.tmod 33)) == maskN (clampN (m.tmod 33))) == (n.tmod 33 == m.tmod 33)) = false := by rw [mask_inj' (by omega) (by omega)]; rfl
    have f7 := not_mask' (x := n.tmod 33) (by omega)
    have f8 := fun h k => in_meet (p := ip) (a := a) (b := b) (x := n.tmod 33) (y := m.tmod 33) (by omega) h k
    have f9 := fun h => in_same (p := ip) (a := a) (b := b) (x := n.tmod 33) h
    refine can_of_W known mix Tryd.func7 (by kernel_rfl) ok_law06_AddrNets (Nat.le_of_ble_eq_true rfl) ?_
    repeat' ((conv => whnf); first
    | ((with_reducible refine Look.mk ?_); refine ⟨_, rfl, ?_⟩)
    | ((with_reducible refine LookN.zeros ?_))
    | ((with_reducible refine LookN.bytes ?_ ?_); (simp; done))
    | ((with_reducible refine BytesW.bytes ?_))
    | ((with_reducible refine Look.byte ?_ ?_); omega)
    | ((with_reducible refine Look.setb ?_ ?_ ?_); exact bv8_bd _; omega)
    | ((with_reducible refine LookN.setb ?_ ?_ ?_); exact bv8_bd _; omega)
    | ((with_reducible refine LookN.mk ?_); refine ⟨_, rfl, ?_⟩)
    | ((with_reducible refine Need.mk ?_ ?_); first | ((with_reducible refine needB ?_); kernel_rfl) | with_reducible rfl | omega | (with_reducible refine ⟨rfl, ?_⟩; focus omega) | (simp only [ByteArray.size_append, size_lit, List.size_toArray, List.length_cons, List.length_nil, Sp.ofB_size, ByteArray.size_extract]; omega) | exact rfl | trivial | exact Nat.le_of_ble_eq_true rfl | (exact ⟨rfl, by omega⟩) | (intro h; first | rfl | cases h) | (simp only [lenS_text, lenS_setN, lenS_zeros]; omega))
    | ((with_reducible refine BytesW.mk ?_); refine ⟨_, rfl, ?_⟩)
    | (with_reducible refine CallW.det (alive_det hG) ?_)
    | (with_reducible refine CallW.det (in_det _ _ _ (by omega) (by omega) (by omega)) ?_)
    | (with_reducible refine CallW.det (mask_det _ (by omega)) ?_)
    | ((with_reducible refine Test.tmodEqT ?_ ?_ ?_); omega; focus first | omega | assumption)
    | ((with_reducible refine Test.tmodEqF ?_ ?_ ?_); omega; focus first | omega | assumption)
    | ((with_reducible refine Test.tmodNeT ?_ ?_ ?_); omega; focus first | omega | assumption)
    | ((with_reducible refine Test.tmodNeF ?_ ?_ ?_); omega; focus first | omega | assumption)
    | ((with_reducible refine Test.tmodEq ?_ (fun h => ?_) (fun h => ?_)); omega)
    | ((with_reducible refine Test.tmodNe ?_ (fun h => ?_) (fun h => ?_)); omega)
    | ((with_reducible refine Test.notT ?_ ?_); focus assumption)
    | ((with_reducible refine Test.notF ?_ ?_); focus assumption)
    | (with_reducible refine Test.notIe (fun h => ?_) (fun h => ?_))
    | (with_reducible refine Test.notD (fun h => ?_) (fun h => ?_))
    | ((with_reducible refine Test.empty (fun h => ?_) (fun h => ?_)))
    | (with_reducible refine Test.tt ?_)
    | (with_reducible refine Test.ff ?_)
    | ((with_reducible refine Test.dt ?_ ?_); omega)
    | ((with_reducible refine Test.df ?_ ?_); omega)
    | (with_reducible refine Test.d (fun h => ?_) (fun h => ?_))
    | ((with_reducible refine Test.ieT ?_ ?_); omega)
    | ((with_reducible refine Test.ieF ?_ ?_); omega)
    | ((with_reducible refine Test.neT ?_ ?_); omega)
    | ((with_reducible refine Test.neF ?_ ?_); omega)
    | (with_reducible refine Test.ie (fun h => ?_) (fun h => ?_))
    | (with_reducible refine Test.ne (fun h => ?_) (fun h => ?_))
    | ((with_reducible refine Test.b ?_ ?_); (focus first | assumption | (simp [negB]; done) | exact rfl | exact f1 (by assumption) | exact f8 (by assumption) (by assumption) | (rw [f9 (by assumption)]; simp [negB]; done)))
    | ((with_reducible refine Test.nb ?_ ?_); (focus first | assumption | (simp [negB]; done) | exact rfl | exact f1 (by assumption) | exact f8 (by assumption) (by assumption) | (rw [f9 (by assumption)]; simp [negB]; done)))
    | (with_reducible refine Test.notS (fun h => ?_) (fun h => ?_))
    | (with_reducible refine Test.mk (fun h => ?_) (fun h => ?_))
    | ((with_reducible refine Arith.tdiv ?_ ?_); omega)
    | (with_reducible refine Arith.bv8 ?_)
    | (with_reducible refine Arith.bv16 ?_)
    | (with_reducible refine Arith.bv32 ?_)
    | (with_reducible refine Arith.bv64 ?_)
    | ((with_reducible refine Arith.i64 ?_ ?_); omega)
    | ((with_reducible refine Arith.u64 ?_ ?_); omega)
    | ((with_reducible refine Arith.u32 ?_ ?_); omega)
    | ((with_reducible refine Arith.u16 ?_ ?_); omega)
    | ((with_reducible refine Arith.u8 ?_ ?_); omega)
    | ((with_reducible refine Arith.i32 ?_ ?_); omega)
    | ((with_reducible refine Arith.i64 ?_ ?_); simp (discharger := omega) only [Int.tdiv_eq_ediv_of_nonneg, shr_u8_4, shl_u8_4, shr_u16_4, shl_u16_4, shr_u16_8, shl_u16_8, shr_u32_4, shl_u32_4, shr_u32_8, shl_u32_8, shr_u32_16, shl_u32_16, shr_u32_24, shl_u32_24, shr_u64_4, shl_u64_4, shr_u64_8, shl_u64_8, shr_u64_16, shl_u64_16, shr_u64_24, shl_u64_24, shr_u64_40, shl_u64_40, shr_i64_4, shl_i64_4, shr_i64_8, shl_i64_8, shr_i64_16, shl_i64_16, shr_i64_24, shl_i64_24, shr_i64_40, shl_i64_40]; omega)
    | ((with_reducible refine Arith.u64 ?_ ?_); simp (discharger := omega) only [Int.tdiv_eq_ediv_of_nonneg, shr_u8_4, shl_u8_4, shr_u16_4, shl_u16_4, shr_u16_8, shl_u16_8, shr_u32_4, shl_u32_4, shr_u32_8, shl_u32_8, shr_u32_16, shl_u32_16, shr_u32_24, shl_u32_24, shr_u64_4, shl_u64_4, shr_u64_8, shl_u64_8, shr_u64_16, shl_u64_16, shr_u64_24, shl_u64_24, shr_u64_40, shl_u64_40, shr_i64_4, shl_i64_4, shr_i64_8, shl_i64_8, shr_i64_16, shl_i64_16, shr_i64_24, shl_i64_24, shr_i64_40, shl_i64_40]; omega)
    | ((with_reducible refine Arith.u32 ?_ ?_); simp (discharger := omega) only [Int.tdiv_eq_ediv_of_nonneg, shr_u8_4, shl_u8_4, shr_u16_4, shl_u16_4, shr_u16_8, shl_u16_8, shr_u32_4, shl_u32_4, shr_u32_8, shl_u32_8, shr_u32_16, shl_u32_16, shr_u32_24, shl_u32_24, shr_u64_4, shl_u64_4, shr_u64_8, shl_u64_8, shr_u64_16, shl_u64_16, shr_u64_24, shl_u64_24, shr_u64_40, shl_u64_40, shr_i64_4, shl_i64_4, shr_i64_8, shl_i64_8, shr_i64_16, shl_i64_16, shr_i64_24, shl_i64_24, shr_i64_40, shl_i64_40]; omega)
    | ((with_reducible refine Arith.u16 ?_ ?_); simp (discharger := omega) only [Int.tdiv_eq_ediv_of_nonneg, shr_u8_4, shl_u8_4, shr_u16_4, shl_u16_4, shr_u16_8, shl_u16_8, shr_u32_4, shl_u32_4, shr_u32_8, shl_u32_8, shr_u32_16, shl_u32_16, shr_u32_24, shl_u32_24, shr_u64_4, shl_u64_4, shr_u64_8, shl_u64_8, shr_u64_16, shl_u64_16, shr_u64_24, shl_u64_24, shr_u64_40, shl_u64_40, shr_i64_4, shl_i64_4, shr_i64_8, shl_i64_8, shr_i64_16, shl_i64_16, shr_i64_24, shl_i64_24, shr_i64_40, shl_i64_40]; omega)
    | ((with_reducible refine Arith.u8 ?_ ?_); simp (discharger := omega) only [Int.tdiv_eq_ediv_of_nonneg, shr_u8_4, shl_u8_4, shr_u16_4, shl_u16_4, shr_u16_8, shl_u16_8, shr_u32_4, shl_u32_4, shr_u32_8, shl_u32_8, shr_u32_16, shl_u32_16, shr_u32_24, shl_u32_24, shr_u64_4, shl_u64_4, shr_u64_8, shl_u64_8, shr_u64_16, shl_u64_16, shr_u64_24, shl_u64_24, shr_u64_40, shl_u64_40, shr_i64_4, shl_i64_4, shr_i64_8, shl_i64_8, shr_i64_16, shl_i64_16, shr_i64_24, shl_i64_24, shr_i64_40, shl_i64_40]; omega)
    | (with_reducible refine Arith.mk ?_)
    | (with_reducible refine Ends.mk ?_))
    all_goals first | exact ⟨rfl, rfl⟩ | (exfalso; simp_all; done) | (exfalso; omega)
  · have f1 := fun h => in_less (p := ip) (q := a) (x := m.tmod 33) (y := n.tmod 33) (by omega) h
    have f2 := in_self ip (n.tmod 33)
    have f3 := in_zero h1 h2
    have f4 : negB true (inP ip a 32 == (ip == a)) = false := by rw [in_all]; simp [negB]
    have f5 := mask_and' (x := m.tmod 33) (y := n.tmod 33) (by omega)
    have f6 : negB true ((maskN (clampN (m.tmod 33)) == maskN (clampN (n.tmod 33))) == (m.tmod 33 == n.tmod 33)) = false := by rw [mask_inj' (by omega) (by omega)]; rfl
    have f7 := not_mask' (x := m.tmod 33) (by omega)
    have f8 := fun h k => in_meet (p := ip) (a := a) (b := b) (x := m.tmod 33) (y := n.tmod 33) (by omega) h k
    have f9 := fun h => in_same (p := ip) (a := a) (b := b) (x := m.tmod 33) h
    refine can_of_W known mix Tryd.func7 (by kernel_rfl) ok_law06_AddrNets (Nat.le_of_ble_eq_true rfl) ?_
    repeat' ((conv => whnf); first
    | ((with_reducible refine Look.mk ?_); refine ⟨_, rfl, ?_⟩)
    | ((with_reducible refine LookN.zeros ?_))
    | ((with_reducible refine LookN.bytes ?_ ?_); (simp; done))
    | ((with_reducible refine BytesW.bytes ?_))
    | ((with_reducible refine Look.byte ?_ ?_); omega)
    | ((with_reducible refine Look.setb ?_ ?_ ?_); exact bv8_bd _; omega)
    | ((with_reducible refine LookN.setb ?_ ?_ ?_); exact bv8_bd _; omega)
    | ((with_reducible refine LookN.mk ?_); refine ⟨_, rfl, ?_⟩)
    | ((with_reducible refine Need.mk ?_ ?_); first | ((with_reducible refine needB ?_); kernel_rfl) | with_reducible rfl | omega | (with_reducible refine ⟨rfl, ?_⟩; focus omega) | (simp only [ByteArray.size_append, size_lit, List.size_toArray, List.length_cons, List.length_nil, Sp.ofB_size, ByteArray.size_extract]; omega) | exact rfl | trivial | exact Nat.le_of_ble_eq_true rfl | (exact ⟨rfl, by omega⟩) | (intro h; first | rfl | cases h) | (simp only [lenS_text, lenS_setN, lenS_zeros]; omega))
    | ((with_reducible refine BytesW.mk ?_); refine ⟨_, rfl, ?_⟩)
    | (with_reducible refine CallW.det (alive_det hG) ?_)
    | (with_reducible refine CallW.det (in_det _ _ _ (by omega) (by omega) (by omega)) ?_)
    | (with_reducible refine CallW.det (mask_det _ (by omega)) ?_)
    | ((with_reducible refine Test.tmodEqT ?_ ?_ ?_); omega; focus first | omega | assumption)
    | ((with_reducible refine Test.tmodEqF ?_ ?_ ?_); omega; focus first | omega | assumption)
    | ((with_reducible refine Test.tmodNeT ?_ ?_ ?_); omega; focus first | omega | assumption)
    | ((with_reducible refine Test.tmodNeF ?_ ?_ ?_); omega; focus first | omega | assumption)
    | ((with_reducible refine Test.tmodEq ?_ (fun h => ?_) (fun h => ?_)); omega)
    | ((with_reducible refine Test.tmodNe ?_ (fun h => ?_) (fun h => ?_)); omega)
    | ((with_reducible refine Test.notT ?_ ?_); focus assumption)
    | ((with_reducible refine Test.notF ?_ ?_); focus assumption)
    | (with_reducible refine Test.notIe (fun h => ?_) (fun h => ?_))
    | (with_reducible refine Test.notD (fun h => ?_) (fun h => ?_))
    | ((with_reducible refine Test.empty (fun h => ?_) (fun h => ?_)))
    | (with_reducible refine Test.tt ?_)
    | (with_reducible refine Test.ff ?_)
    | ((with_reducible refine Test.dt ?_ ?_); omega)
    | ((with_reducible refine Test.df ?_ ?_); omega)
    | (with_reducible refine Test.d (fun h => ?_) (fun h => ?_))
    | ((with_reducible refine Test.ieT ?_ ?_); omega)
    | ((with_reducible refine Test.ieF ?_ ?_); omega)
    | ((with_reducible refine Test.neT ?_ ?_); omega)
    | ((with_reducible refine Test.neF ?_ ?_); omega)
    | (with_reducible refine Test.ie (fun h => ?_) (fun h => ?_))
    | (with_reducible refine Test.ne (fun h => ?_) (fun h => ?_))
    | ((with_reducible refine Test.b ?_ ?_); (focus first | assumption | (simp [negB]; done) | exact rfl | exact f1 (by assumption) | exact f8 (by assumption) (by assumption) | (rw [f9 (by assumption)]; simp [negB]; done)))
    | ((with_reducible refine Test.nb ?_ ?_); (focus first | assumption | (simp [negB]; done) | exact rfl | exact f1 (by assumption) | exact f8 (by assumption) (by assumption) | (rw [f9 (by assumption)]; simp [negB]; done)))
    | (with_reducible refine Test.notS (fun h => ?_) (fun h => ?_))
    | (with_reducible refine Test.mk (fun h => ?_) (fun h => ?_))
    | ((with_reducible refine Arith.tdiv ?_ ?_); omega)
    | (with_reducible refine Arith.bv8 ?_)
    | (with_reducible refine Arith.bv16 ?_)
    | (with_reducible refine Arith.bv32 ?_)
    | (with_reducible refine Arith.bv64 ?_)
    | ((with_reducible refine Arith.i64 ?_ ?_); omega)
    | ((with_reducible refine Arith.u64 ?_ ?_); omega)
    | ((with_reducible refine Arith.u32 ?_ ?_); omega)
    | ((with_reducible refine Arith.u16 ?_ ?_); omega)
    | ((with_reducible refine Arith.u8 ?_ ?_); omega)
    | ((with_reducible refine Arith.i32 ?_ ?_); omega)
    | ((with_reducible refine Arith.i64 ?_ ?_); simp (discharger := omega) only [Int.tdiv_eq_ediv_of_nonneg, shr_u8_4, shl_u8_4, shr_u16_4, shl_u16_4, shr_u16_8, shl_u16_8, shr_u32_4, shl_u32_4, shr_u32_8, shl_u32_8, shr_u32_16, shl_u32_16, shr_u32_24, shl_u32_24, shr_u64_4, shl_u64_4, shr_u64_8, shl_u64_8, shr_u64_16, shl_u64_16, shr_u64_24, shl_u64_24, shr_u64_40, shl_u64_40, shr_i64_4, shl_i64_4, shr_i64_8, shl_i64_8, shr_i64_16, shl_i64_16, shr_i64_24, shl_i64_24, shr_i64_40, shl_i64_40]; omega)
    | ((with_reducible refine Arith.u64 ?_ ?_); simp (discharger := omega) only [Int.tdiv_eq_ediv_of_nonneg, shr_u8_4, shl_u8_4, shr_u16_4, shl_u16_4, shr_u16_8, shl_u16_8, shr_u32_4, shl_u32_4, shr_u32_8, shl_u32_8, shr_u32_16, shl_u32_16, shr_u32_24, shl_u32_24, shr_u64_4, shl_u64_4, shr_u64_8, shl_u64_8, shr_u64_16, shl_u64_16, shr_u64_24, shl_u64_24, shr_u64_40, shl_u64_40, shr_i64_4, shl_i64_4, shr_i64_8, shl_i64_8, shr_i64_16, shl_i64_16, shr_i64_24, shl_i64_24, shr_i64_40, shl_i64_40]; omega)
    | ((with_reducible refine Arith.u32 ?_ ?_); simp (discharger := omega) only [Int.tdiv_eq_ediv_of_nonneg, shr_u8_4, shl_u8_4, shr_u16_4, shl_u16_4, shr_u16_8, shl_u16_8, shr_u32_4, shl_u32_4, shr_u32_8, shl_u32_8, shr_u32_16, shl_u32_16, shr_u32_24, shl_u32_24, shr_u64_4, shl_u64_4, shr_u64_8, shl_u64_8, shr_u64_16, shl_u64_16, shr_u64_24, shl_u64_24, shr_u64_40, shl_u64_40, shr_i64_4, shl_i64_4, shr_i64_8, shl_i64_8, shr_i64_16, shl_i64_16, shr_i64_24, shl_i64_24, shr_i64_40, shl_i64_40]; omega)
    | ((with_reducible refine Arith.u16 ?_ ?_); simp (discharger := omega) only [Int.tdiv_eq_ediv_of_nonneg, shr_u8_4, shl_u8_4, shr_u16_4, shl_u16_4, shr_u16_8, shl_u16_8, shr_u32_4, shl_u32_4, shr_u32_8, shl_u32_8, shr_u32_16, shl_u32_16, shr_u32_24, shl_u32_24, shr_u64_4, shl_u64_4, shr_u64_8, shl_u64_8, shr_u64_16, shl_u64_16, shr_u64_24, shl_u64_24, shr_u64_40, shl_u64_40, shr_i64_4, shl_i64_4, shr_i64_8, shl_i64_8, shr_i64_16, shl_i64_16, shr_i64_24, shl_i64_24, shr_i64_40, shl_i64_40]; omega)
    | ((with_reducible refine Arith.u8 ?_ ?_); simp (discharger := omega) only [Int.tdiv_eq_ediv_of_nonneg, shr_u8_4, shl_u8_4, shr_u16_4, shl_u16_4, shr_u16_8, shl_u16_8, shr_u32_4, shl_u32_4, shr_u32_8, shl_u32_8, shr_u32_16, shl_u32_16, shr_u32_24, shl_u32_24, shr_u64_4, shl_u64_4, shr_u64_8, shl_u64_8, shr_u64_16, shl_u64_16, shr_u64_24, shl_u64_24, shr_u64_40, shl_u64_40, shr_i64_4, shl_i64_4, shr_i64_8, shl_i64_8, shr_i64_16, shl_i64_16, shr_i64_24, shl_i64_24, shr_i64_40, shl_i64_40]; omega)
    | (with_reducible refine Arith.mk ?_)
    | (with_reducible refine Ends.mk ?_))
    all_goals first | exact ⟨rfl, rfl⟩ | (exfalso; simp_all; done) | (exfalso; omega)
set_option maxHeartbeats 8000000 in
theorem order_ (hG : Tabs G) (a b c d p q r s x y z v : Int) (k1 : okP a b c d) (k2 : okP p q r s) (k3 : okP x y z v) : Det G Tryd.prog 8 [.a (pair a b c d), .a (pair p q r s), .a (pair x y z v)] [] (vB true) [] := by
  have f1 := turn_same a b c d
  have f2 := bytes_same k1 k2
  have f3 := pair_size a b c d
  have f4 := turn_bytes a b c d
  have f5 := cmpB_neg (pairB a b c d) (pairB p q r s)
  have f6 := cmp_zero k1 k2
  have f7 := cmpB_bd (pairB a b c d) (pairB p q r s)
  have f8 := cmpB_bd (pairB p q r s) (pairB a b c d)
  have f9 := fun h k => cmp_chain (x := pairB a b c d) (y := pairB p q r s) (z := pairB x y z v) h k
  refine can_of_W known mix Tryd.func8 (by kernel_rfl) ok_law06_AddrOrder (Nat.le_of_ble_eq_true rfl) ?_
  repeat' ((conv => whnf); first
    | ((with_reducible refine Look.mk ?_); refine ⟨_, rfl, ?_⟩)
    | ((with_reducible refine LookN.zeros ?_))
    | ((with_reducible refine LookN.bytes ?_ ?_); (simp; done))
    | ((with_reducible refine BytesW.bytes ?_))
    | ((with_reducible refine Look.byte ?_ ?_); omega)
    | ((with_reducible refine Look.setb ?_ ?_ ?_); exact bv8_bd _; omega)
    | ((with_reducible refine LookN.setb ?_ ?_ ?_); exact bv8_bd _; omega)
    | ((with_reducible refine LookN.mk ?_); refine ⟨_, rfl, ?_⟩)
    | ((with_reducible refine Need.mk ?_ ?_); first | ((with_reducible refine needB ?_); kernel_rfl) | with_reducible rfl | omega | (with_reducible refine ⟨rfl, ?_⟩; focus omega) | (simp only [ByteArray.size_append, size_lit, List.size_toArray, List.length_cons, List.length_nil, Sp.ofB_size, ByteArray.size_extract]; omega) | exact rfl | trivial | exact Nat.le_of_ble_eq_true rfl | (exact ⟨rfl, by omega⟩) | (intro h; first | rfl | cases h) | (simp only [lenS_text, lenS_setN, lenS_zeros]; omega))
    | ((with_reducible refine BytesW.mk ?_); refine ⟨_, rfl, ?_⟩)
    | (with_reducible refine CallW.det (alive_det hG) ?_)
    | (with_reducible refine CallW.det (turn_det _ _ _ _) ?_)
    | (with_reducible refine CallW.det (bytes_det _ _ _ _ k1) ?_)
    | (with_reducible refine CallW.det (bytes_det _ _ _ _ k2) ?_)
    | (with_reducible refine CallW.det (bytes_det _ _ _ _ (by omega)) ?_)
    | (with_reducible refine CallW.det (compare_det _ _ _ _ k1 _ _ _ _ k2) ?_)
    | (with_reducible refine CallW.det (compare_det _ _ _ _ k2 _ _ _ _ k1) ?_)
    | (with_reducible refine CallW.det (compare_det _ _ _ _ k2 _ _ _ _ k3) ?_)
    | (with_reducible refine CallW.det (compare_det _ _ _ _ k1 _ _ _ _ k3) ?_)
    | ((with_reducible refine Test.tmodEqT ?_ ?_ ?_); omega; focus first | omega | assumption)
    | ((with_reducible refine Test.tmodEqF ?_ ?_ ?_); omega; focus first | omega | assumption)
    | ((with_reducible refine Test.tmodNeT ?_ ?_ ?_); omega; focus first | omega | assumption)
    | ((with_reducible refine Test.tmodNeF ?_ ?_ ?_); omega; focus first | omega | assumption)
    | ((with_reducible refine Test.tmodEq ?_ (fun h => ?_) (fun h => ?_)); omega)
    | ((with_reducible refine Test.tmodNe ?_ (fun h => ?_) (fun h => ?_)); omega)
    | ((with_reducible refine Test.notT ?_ ?_); focus assumption)
    | ((with_reducible refine Test.notF ?_ ?_); focus assumption)
    | (with_reducible refine Test.notIe (fun h => ?_) (fun h => ?_))
    | (with_reducible refine Test.notD (fun h => ?_) (fun h => ?_))
    | ((with_reducible refine Test.empty (fun h => ?_) (fun h => ?_)))
    | (with_reducible refine Test.tt ?_)
    | (with_reducible refine Test.ff ?_)
    | ((with_reducible refine Test.dt ?_ ?_); omega)
    | ((with_reducible refine Test.df ?_ ?_); omega)
    | (with_reducible refine Test.d (fun h => ?_) (fun h => ?_))
    | ((with_reducible refine Test.ieT ?_ ?_); omega)
    | ((with_reducible refine Test.ieF ?_ ?_); omega)
    | ((with_reducible refine Test.neT ?_ ?_); omega)
    | ((with_reducible refine Test.neF ?_ ?_); omega)
    | (with_reducible refine Test.ie (fun h => ?_) (fun h => ?_))
    | (with_reducible refine Test.ne (fun h => ?_) (fun h => ?_))
    | ((with_reducible refine Test.b ?_ ?_); (focus first | assumption | (simp [negB]; done) | exact rfl))
    | ((with_reducible refine Test.nb ?_ ?_); (focus first | assumption | (simp [negB]; done) | exact rfl))
    | (with_reducible refine Test.notS (fun h => ?_) (fun h => ?_))
    | (with_reducible refine Test.mk (fun h => ?_) (fun h => ?_))
    | ((with_reducible refine Arith.tdiv ?_ ?_); omega)
    | (with_reducible refine Arith.bv8 ?_)
    | (with_reducible refine Arith.bv16 ?_)
    | (with_reducible refine Arith.bv32 ?_)
    | (with_reducible refine Arith.bv64 ?_)
    | ((with_reducible refine Arith.i64 ?_ ?_); omega)
    | ((with_reducible refine Arith.u64 ?_ ?_); omega)
    | ((with_reducible refine Arith.u32 ?_ ?_); omega)
    | ((with_reducible refine Arith.u16 ?_ ?_); omega)
    | ((with_reducible refine Arith.u8 ?_ ?_); omega)
    | ((with_reducible refine Arith.i32 ?_ ?_); omega)
    | ((with_reducible refine Arith.i64 ?_ ?_); simp (discharger := omega) only [Int.tdiv_eq_ediv_of_nonneg, shr_u8_4, shl_u8_4, shr_u16_4, shl_u16_4, shr_u16_8, shl_u16_8, shr_u32_4, shl_u32_4, shr_u32_8, shl_u32_8, shr_u32_16, shl_u32_16, shr_u32_24, shl_u32_24, shr_u64_4, shl_u64_4, shr_u64_8, shl_u64_8, shr_u64_16, shl_u64_16, shr_u64_24, shl_u64_24, shr_u64_40, shl_u64_40, shr_i64_4, shl_i64_4, shr_i64_8, shl_i64_8, shr_i64_16, shl_i64_16, shr_i64_24, shl_i64_24, shr_i64_40, shl_i64_40]; omega)
    | ((with_reducible refine Arith.u64 ?_ ?_); simp (discharger := omega) only [Int.tdiv_eq_ediv_of_nonneg, shr_u8_4, shl_u8_4, shr_u16_4, shl_u16_4, shr_u16_8, shl_u16_8, shr_u32_4, shl_u32_4, shr_u32_8, shl_u32_8, shr_u32_16, shl_u32_16, shr_u32_24, shl_u32_24, shr_u64_4, shl_u64_4, shr_u64_8, shl_u64_8, shr_u64_16, shl_u64_16, shr_u64_24, shl_u64_24, shr_u64_40, shl_u64_40, shr_i64_4, shl_i64_4, shr_i64_8, shl_i64_8, shr_i64_16, shl_i64_16, shr_i64_24, shl_i64_24, shr_i64_40, shl_i64_40]; omega)
    | ((with_reducible refine Arith.u32 ?_ ?_); simp (discharger := omega) only [Int.tdiv_eq_ediv_of_nonneg, shr_u8_4, shl_u8_4, shr_u16_4, shl_u16_4, shr_u16_8, shl_u16_8, shr_u32_4, shl_u32_4, shr_u32_8, shl_u32_8, shr_u32_16, shl_u32_16, shr_u32_24, shl_u32_24, shr_u64_4, shl_u64_4, shr_u64_8, shl_u64_8, shr_u64_16, shl_u64_16, shr_u64_24, shl_u64_24, shr_u64_40, shl_u64_40, shr_i64_4, shl_i64_4, shr_i64_8, shl_i64_8, shr_i64_16, shl_i64_16, shr_i64_24, shl_i64_24, shr_i64_40, shl_i64_40]; omega)
    | ((with_reducible refine Arith.u16 ?_ ?_); simp (discharger := omega) only [Int.tdiv_eq_ediv_of_nonneg, shr_u8_4, shl_u8_4, shr_u16_4, shl_u16_4, shr_u16_8, shl_u16_8, shr_u32_4, shl_u32_4, shr_u32_8, shl_u32_8, shr_u32_16, shl_u32_16, shr_u32_24, shl_u32_24, shr_u64_4, shl_u64_4, shr_u64_8, shl_u64_8, shr_u64_16, shl_u64_16, shr_u64_24, shl_u64_24, shr_u64_40, shl_u64_40, shr_i64_4, shl_i64_4, shr_i64_8, shl_i64_8, shr_i64_16, shl_i64_16, shr_i64_24, shl_i64_24, shr_i64_40, shl_i64_40]; omega)
    | ((with_reducible refine Arith.u8 ?_ ?_); simp (discharger := omega) only [Int.tdiv_eq_ediv_of_nonneg, shr_u8_4, shl_u8_4, shr_u16_4, shl_u16_4, shr_u16_8, shl_u16_8, shr_u32_4, shl_u32_4, shr_u32_8, shl_u32_8, shr_u32_16, shl_u32_16, shr_u32_24, shl_u32_24, shr_u64_4, shl_u64_4, shr_u64_8, shl_u64_8, shr_u64_16, shl_u64_16, shr_u64_24, shl_u64_24, shr_u64_40, shl_u64_40, shr_i64_4, shl_i64_4, shr_i64_8, shl_i64_8, shr_i64_16, shl_i64_16, shr_i64_24, shl_i64_24, shr_i64_40, shl_i64_40]; omega)
    | (with_reducible refine Arith.mk ?_)
    | (with_reducible refine Ends.mk ?_))
  all_goals first | exact ⟨rfl, rfl⟩ | (exfalso; have := f9 (by omega) (by omega); omega) | (exfalso; omega) | (exfalso; simp_all; done)
end G4
end Go.Proofs.YtnikpanebkknfaaDoor.VM
