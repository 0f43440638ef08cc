/- law 06 by the evaluator: alive, and the laws. -/
import Derived.Test.YtnikpanebkknfaaDoorV06c
namespace Go.Proofs.YtnikpanebkknfaaDoor.VM
namespace G4
open Go.RowKit
set_option linter.unusedVariables false
set_option linter.unusedSimpArgs false
set_option maxRecDepth 100000
variable {G : Ground}
theorem tx1 : textB 167838211 = (⟨#[49, 48, 46, 49, 46, 50, 46, 51]⟩ : ByteArray) := by
  unfold textB; rw [join4, show ((167838211 : Int) / 16777216 : Int) = 10 from by decide, show ((167838211 : Int) / 65536 % 256 : Int) = 1 from by decide, show ((167838211 : Int) / 256 % 256 : Int) = 2 from by decide, show ((167838211 : Int) % 256 : Int) = 3 from by decide, itoa2 (n := 10) (by decide), itoa1 (n := 1) (by decide), itoa1 (n := 2) (by decide), itoa1 (n := 3) (by decide)]; decide +kernel
theorem tx2 : textB 167837696 = (⟨#[49, 48, 46, 49, 46, 48, 46, 48]⟩ : ByteArray) := by
  unfold textB; rw [join4, show ((167837696 : Int) / 16777216 : Int) = 10 from by decide, show ((167837696 : Int) / 65536 % 256 : Int) = 1 from by decide, show ((167837696 : Int) / 256 % 256 : Int) = 0 from by decide, show ((167837696 : Int) % 256 : Int) = 0 from by decide, itoa2 (n := 10) (by decide), itoa1 (n := 1) (by decide), itoa1 (n := 0) (by decide)]; decide +kernel
theorem tx3 : textB 167772161 = (⟨#[49, 48, 46, 48, 46, 48, 46, 49]⟩ : ByteArray) := by
  unfold textB; rw [join4, show ((167772161 : Int) / 16777216 : Int) = 10 from by decide, show ((167772161 : Int) / 65536 % 256 : Int) = 0 from by decide, show ((167772161 : Int) / 256 % 256 : Int) = 0 from by decide, show ((167772161 : Int) % 256 : Int) = 1 from by decide, itoa2 (n := 10) (by decide), itoa1 (n := 0) (by decide), itoa1 (n := 1) (by decide)]; decide +kernel
theorem tx4 : textB 66051 = (⟨#[48, 46, 49, 46, 50, 46, 51]⟩ : ByteArray) := by
  unfold textB; rw [join4, show ((66051 : Int) / 16777216 : Int) = 0 from by decide, show ((66051 : Int) / 65536 % 256 : Int) = 1 from by decide, show ((66051 : Int) / 256 % 256 : Int) = 2 from by decide, show ((66051 : Int) % 256 : Int) = 3 from by decide, itoa1 (n := 0) (by decide), itoa1 (n := 1) (by decide), itoa1 (n := 2) (by decide), itoa1 (n := 3) (by decide)]; decide +kernel
theorem tx5 : textB 4278190081 = (⟨#[50, 53, 53, 46, 48, 46, 48, 46, 49]⟩ : ByteArray) := by
  unfold textB; rw [join4, show ((4278190081 : Int) / 16777216 : Int) = 255 from by decide, show ((4278190081 : Int) / 65536 % 256 : Int) = 0 from by decide, show ((4278190081 : Int) / 256 % 256 : Int) = 0 from by decide, show ((4278190081 : Int) % 256 : Int) = 1 from by decide, itoa3 (n := 255) (by decide), itoa1 (n := 0) (by decide), itoa1 (n := 1) (by decide)]; decide +kernel
theorem tx6 : textB 4294963200 = (⟨#[50, 53, 53, 46, 50, 53, 53, 46, 50, 52, 48, 46, 48]⟩ : ByteArray) := by
  unfold textB; rw [join4, show ((4294963200 : Int) / 16777216 : Int) = 255 from by decide, show ((4294963200 : Int) / 65536 % 256 : Int) = 255 from by decide, show ((4294963200 : Int) / 256 % 256 : Int) = 240 from by decide, show ((4294963200 : Int) % 256 : Int) = 0 from by decide, itoa3 (n := 255) (by decide), itoa3 (n := 240) (by decide), itoa1 (n := 0) (by decide)]; decide +kernel
theorem bad0 : valA (⟨#[49, 48, 46, 48, 46, 48, 46, 48, 49]⟩ : ByteArray) = 0 ∧ errA (⟨#[49, 48, 46, 48, 46, 48, 46, 48, 49]⟩ : ByteArray) = 8 := by
  have e : pA (⟨#[49, 48, 46, 48, 46, 48, 46, 48, 49]⟩ : ByteArray) = 167772161 := by decide +kernel
  unfold valA errA
  rw [e, tx3, if_neg (by decide), if_neg (by decide)]; exact ⟨rfl, rfl⟩
theorem pbad0 (hG : Tabs G) : Det G Tryd.prog 17 [.o (.str (⟨#[49, 48, 46, 48, 46, 48, 46, 48, 49]⟩ : ByteArray))] [] (.t [.o (.int .u32 0), .o (.int .i64 8)]) [] := by
  have h := aparse_det (G := G) hG (⟨#[49, 48, 46, 48, 46, 48, 46, 48, 49]⟩ : ByteArray) (by decide)
  rw [bad0.1, bad0.2] at h; exact h
theorem bad1 : valA (⟨#[49, 46, 50, 46, 51]⟩ : ByteArray) = 0 ∧ errA (⟨#[49, 46, 50, 46, 51]⟩ : ByteArray) = 8 := by
  have e : pA (⟨#[49, 46, 50, 46, 51]⟩ : ByteArray) = 66051 := by decide +kernel
  unfold valA errA
  rw [e, tx4, if_neg (by decide), if_neg (by decide)]; exact ⟨rfl, rfl⟩
theorem pbad1 (hG : Tabs G) : Det G Tryd.prog 17 [.o (.str (⟨#[49, 46, 50, 46, 51]⟩ : ByteArray))] [] (.t [.o (.int .u32 0), .o (.int .i64 8)]) [] := by
  have h := aparse_det (G := G) hG (⟨#[49, 46, 50, 46, 51]⟩ : ByteArray) (by decide)
  rw [bad1.1, bad1.2] at h; exact h
theorem bad2 : valA (⟨#[50, 53, 54, 46, 48, 46, 48, 46, 49]⟩ : ByteArray) = 0 ∧ errA (⟨#[50, 53, 54, 46, 48, 46, 48, 46, 49]⟩ : ByteArray) = 8 := by
  have e : pA (⟨#[50, 53, 54, 46, 48, 46, 48, 46, 49]⟩ : ByteArray) = 4278190081 := by decide +kernel
  unfold valA errA
  rw [e, tx5, if_neg (by decide), if_neg (by decide)]; exact ⟨rfl, rfl⟩
theorem pbad2 (hG : Tabs G) : Det G Tryd.prog 17 [.o (.str (⟨#[50, 53, 54, 46, 48, 46, 48, 46, 49]⟩ : ByteArray))] [] (.t [.o (.int .u32 0), .o (.int .i64 8)]) [] := by
  have h := aparse_det (G := G) hG (⟨#[50, 53, 54, 46, 48, 46, 48, 46, 49]⟩ : ByteArray) (by decide)
  rw [bad2.1, bad2.2] at h; exact h
theorem pok1 (hG : Tabs G) : Det G Tryd.prog 17 [.o (.str (⟨#[49, 48, 46, 49, 46, 50, 46, 51]⟩ : ByteArray))] [] (.t [.o (.int .u32 167838211), .o (.int .i64 0)]) [] := by
  have h := aparse_det (G := G) hG (⟨#[49, 48, 46, 49, 46, 50, 46, 51]⟩ : ByteArray) (by decide)
  rw [← tx1, (val_text (by decide)).1, (val_text (by decide)).2, tx1] at h; exact h
theorem pok2 (hG : Tabs G) : Det G Tryd.prog 17 [.o (.str (⟨#[49, 48, 46, 49, 46, 48, 46, 48]⟩ : ByteArray))] [] (.t [.o (.int .u32 167837696), .o (.int .i64 0)]) [] := by
  have h := aparse_det (G := G) hG (⟨#[49, 48, 46, 49, 46, 48, 46, 48]⟩ : ByteArray) (by decide)
  rw [← tx2, (val_text (by decide)).1, (val_text (by decide)).2, tx2] at h; exact h
theorem dtx3 (hG : Tabs G) : Det G Tryd.prog 19 [.o (.int .u32 167772161)] [] (vS (⟨#[49, 48, 46, 48, 46, 48, 46, 49]⟩ : ByteArray)) [] := by
  have h := text_det (G := G) hG 167772161 (by decide)
  rw [tx3] at h; exact h
theorem dtx6 (hG : Tabs G) : Det G Tryd.prog 19 [.o (.int .u32 4294963200)] [] (vS (⟨#[50, 53, 53, 46, 50, 53, 53, 46, 50, 52, 48, 46, 48]⟩ : ByteArray)) [] := by
  have h := text_det (G := G) hG 4294963200 (by decide)
  rw [tx6] at h; exact h
theorem mask20 : Det G Tryd.prog 23 [.o (.int .i64 20)] [] (vI .u32 4294963200) [] := by
  have h := mask_det (G := G) 20 (by decide)
  rw [show maskN (clampN 20) = 4294963200 from by decide +kernel] at h; exact h
theorem in16 : Det G Tryd.prog 25 [.o (.int .u32 167838211), .o (.int .u32 167837696), .o (.int .i64 16)] [] (vB true) [] := by
  have h := in_det (G := G) 167838211 167837696 16 (by decide) (by decide) (by decide)
  rw [show inP 167838211 167837696 16 = true from by decide +kernel] at h; exact h
theorem in24 : Det G Tryd.prog 25 [.o (.int .u32 167838211), .o (.int .u32 167837696), .o (.int .i64 24)] [] (vB false) [] := by
  have h := in_det (G := G) 167838211 167837696 24 (by decide) (by decide) (by decide)
  rw [show inP 167838211 167837696 24 = false from by decide +kernel] at h; exact h
theorem kind1 : Det G Tryd.prog 21 [.o (.int .u32 167838211)] [] (vI .u8 0) [] := by
  have h := kind_det (G := G) 167838211 (by decide)
  rw [show kindA 167838211 = 0 from by decide +kernel] at h; exact h
theorem kind0 : Det G Tryd.prog 21 [.o (.int .u32 0)] [] (vI .u8 1) [] := by
  have h := kind_det (G := G) 0 (by decide)
  rw [show kindA 0 = 1 from by decide +kernel] at h; exact h
theorem cmp_same : Det G Tryd.prog 31 [.a (pair 167838211 1 167837696 2), .a (pair 167838211 1 167837696 2)] [] (vI .i64 0) [] := by
  have h := compare_det (G := G) 167838211 1 167837696 2 (by decide) 167838211 1 167837696 2 (by decide)
  rw [(cmpB_eq _ _).2 rfl] at h; exact h
def vf_law06_alive : VFn := ⟨(.seq (.reg [
    ⟨(some 0), .mv (.c (.p (.o (.bool false)))), none, 0⟩] 0 none) (.seq (.reg [
    ⟨(some 13), .call 17 [(.c (.p (.o (.str ⟨#[49, 48, 46, 49, 46, 50, 46, 51]⟩))))] 0, none, 0⟩,
    ⟨(some 12), .mv (.t 13), none, 0⟩,
    ⟨(some 14), .ext 0 (.t 12), none, 0⟩,
    ⟨(some 15), .ext 1 (.t 12), none, 0⟩,
    ⟨(some 1), .mv (.t 14), none, 0⟩,
    ⟨(some 2), .mv (.t 15), none, 0⟩] 0 none) (.seq (.reg [
    ⟨(some 17), .call 17 [(.c (.p (.o (.str ⟨#[49, 48, 46, 49, 46, 48, 46, 48]⟩))))] 0, none, 0⟩,
    ⟨(some 16), .mv (.t 17), none, 0⟩,
    ⟨(some 18), .ext 0 (.t 16), none, 0⟩,
    ⟨(some 19), .ext 1 (.t 16), none, 0⟩,
    ⟨(some 3), .mv (.t 18), none, 0⟩,
    ⟨(some 4), .mv (.t 19), none, 0⟩] 0 none) (.seq (.reg [
    ⟨(some 21), .call 17 [(.c (.p (.o (.str ⟨#[49, 48, 46, 48, 46, 48, 46, 48, 49]⟩))))] 0, none, 0⟩,
    ⟨(some 20), .mv (.t 21), none, 0⟩,
    ⟨(some 22), .ext 0 (.t 20), none, 0⟩,
    ⟨(some 23), .ext 1 (.t 20), none, 0⟩,
    ⟨(some 5), .mv (.t 22), none, 0⟩,
    ⟨(some 6), .mv (.t 23), none, 0⟩] 0 none) (.seq (.reg [
    ⟨(some 25), .call 17 [(.c (.p (.o (.str ⟨#[49, 46, 50, 46, 51]⟩))))] 0, none, 0⟩,
    ⟨(some 24), .mv (.t 25), none, 0⟩,
    ⟨(some 26), .ext 0 (.t 24), none, 0⟩,
    ⟨(some 27), .ext 1 (.t 24), none, 0⟩,
    ⟨(some 7), .mv (.t 26), none, 0⟩,
    ⟨(some 8), .mv (.t 27), none, 0⟩] 0 none) (.seq (.reg [
    ⟨(some 29), .call 17 [(.c (.p (.o (.str ⟨#[50, 53, 54, 46, 48, 46, 48, 46, 49]⟩))))] 0, none, 0⟩,
    ⟨(some 28), .mv (.t 29), none, 0⟩,
    ⟨(some 30), .ext 0 (.t 28), none, 0⟩,
    ⟨(some 31), .ext 1 (.t 28), none, 0⟩,
    ⟨(some 9), .mv (.t 30), none, 0⟩,
    ⟨(some 10), .mv (.t 31), none, 0⟩] 0 none) (.seq (.reg [
    ⟨(some 32), .mv (.t 1), none, 0⟩,
    ⟨(some 33), .bld [.int .u32 0, .int .u16 0] [(0, 1, (.t 32)), (1, 1, (.c (.p (.o (.int .u16 1)))))], none, 0⟩,
    ⟨(some 34), .mv (.t 3), none, 0⟩,
    ⟨(some 35), .bld [.int .u32 0, .int .u16 0] [(0, 1, (.t 34)), (1, 1, (.c (.p (.o (.int .u16 2)))))], none, 0⟩,
    ⟨(some 36), .bld [.int .u32 0, .int .u16 0, .int .u32 0, .int .u16 0] [(0, 2, (.t 33)), (2, 2, (.t 35))], none, 0⟩,
    ⟨(some 11), .new [.int .u32 0, .int .u16 0, .int .u32 0, .int .u16 0], none, 0⟩,
    ⟨none, .st 4 (.t 11) (.t 36), none, 1⟩] 1 none) (.seq (.reg [
    ⟨(some 37), .call 19 [(.c (.p (.o (.int .u32 167772161))))] 0, none, 0⟩,
    ⟨(some 38), .bin .eql (.t 37) (.c (.p (.o (.str ⟨#[49, 48, 46, 48, 46, 48, 46, 49]⟩)))), none, 0⟩,
    ⟨(some 39), .mv (.t 38), none, 0⟩,
    ⟨(some 40), .mv (.t 2), (some (39, true)), 0⟩,
    ⟨(some 41), .bin .eql (.t 40) (.c (.p (.o (.int .i64 0)))), (some (39, true)), 0⟩,
    ⟨(some 42), .pick (.t 39) (.t 41) (.c (.p (.o (.bool false)))), none, 0⟩,
    ⟨(some 43), .mv (.t 42), none, 0⟩,
    ⟨(some 44), .mv (.t 4), (some (43, true)), 0⟩,
    ⟨(some 45), .bin .eql (.t 44) (.c (.p (.o (.int .i64 0)))), (some (43, true)), 0⟩,
    ⟨(some 46), .pick (.t 43) (.t 45) (.c (.p (.o (.bool false)))), none, 0⟩,
    ⟨(some 47), .mv (.t 46), none, 0⟩,
    ⟨(some 48), .mv (.t 6), (some (47, true)), 0⟩,
    ⟨(some 49), .bin .eql (.t 48) (.c (.p (.o (.int .i64 8)))), (some (47, true)), 0⟩,
    ⟨(some 50), .pick (.t 47) (.t 49) (.c (.p (.o (.bool false)))), none, 0⟩,
    ⟨(some 51), .mv (.t 50), none, 0⟩,
    ⟨(some 52), .mv (.t 8), (some (51, true)), 0⟩,
    ⟨(some 53), .bin .eql (.t 52) (.c (.p (.o (.int .i64 8)))), (some (51, true)), 0⟩,
    ⟨(some 54), .pick (.t 51) (.t 53) (.c (.p (.o (.bool false)))), none, 0⟩,
    ⟨(some 55), .mv (.t 54), none, 0⟩,
    ⟨(some 56), .mv (.t 10), (some (55, true)), 0⟩,
    ⟨(some 57), .bin .eql (.t 56) (.c (.p (.o (.int .i64 8)))), (some (55, true)), 0⟩,
    ⟨(some 58), .pick (.t 55) (.t 57) (.c (.p (.o (.bool false)))), none, 0⟩,
    ⟨(some 59), .mv (.t 58), none, 0⟩,
    ⟨(some 60), .mv (.t 1), (some (59, true)), 0⟩,
    ⟨(some 61), .mv (.t 3), (some (59, true)), 0⟩,
    ⟨(some 62), .call 25 [(.t 60), (.t 61), (.c (.p (.o (.int .i64 16))))] 0, (some (59, true)), 0⟩,
    ⟨(some 63), .pick (.t 59) (.t 62) (.c (.p (.o (.bool false)))), none, 0⟩,
    ⟨(some 64), .mv (.t 63), none, 0⟩,
    ⟨(some 65), .mv (.t 1), (some (64, true)), 0⟩,
    ⟨(some 66), .mv (.t 3), (some (64, true)), 0⟩,
    ⟨(some 67), .call 25 [(.t 65), (.t 66), (.c (.p (.o (.int .i64 24))))] 0, (some (64, true)), 0⟩,
    ⟨(some 68), .un .not (.t 67), (some (64, true)), 0⟩,
    ⟨(some 69), .pick (.t 64) (.t 68) (.c (.p (.o (.bool false)))), none, 0⟩,
    ⟨(some 70), .mv (.t 69), none, 0⟩,
    ⟨(some 71), .call 23 [(.c (.p (.o (.int .i64 20))))] 0, (some (70, true)), 0⟩,
    ⟨(some 72), .call 19 [(.t 71)] 0, (some (70, true)), 0⟩,
    ⟨(some 73), .bin .eql (.t 72) (.c (.p (.o (.str ⟨#[50, 53, 53, 46, 50, 53, 53, 46, 50, 52, 48, 46, 48]⟩)))), (some (70, true)), 0⟩,
    ⟨(some 74), .pick (.t 70) (.t 73) (.c (.p (.o (.bool false)))), none, 0⟩,
    ⟨(some 75), .mv (.t 74), none, 0⟩,
    ⟨(some 76), .mv (.t 1), (some (75, true)), 0⟩,
    ⟨(some 77), .call 21 [(.t 76)] 0, (some (75, true)), 0⟩,
    ⟨(some 78), .bin .eql (.t 77) (.c (.p (.o (.int .u8 0)))), (some (75, true)), 0⟩,
    ⟨(some 79), .pick (.t 75) (.t 78) (.c (.p (.o (.bool false)))), none, 0⟩,
    ⟨(some 80), .mv (.t 79), none, 0⟩,
    ⟨(some 81), .call 21 [(.c (.p (.o (.int .u32 0))))] 0, (some (80, true)), 0⟩,
    ⟨(some 82), .bin .eql (.t 81) (.c (.p (.o (.int .u8 1)))), (some (80, true)), 0⟩,
    ⟨(some 83), .pick (.t 80) (.t 82) (.c (.p (.o (.bool false)))), none, 0⟩,
    ⟨(some 84), .mv (.t 83), none, 0⟩,
    ⟨(some 85), .ld (some 4) (.t 11), (some (84, true)), 0⟩,
    ⟨(some 86), .call 27 [(.t 85)] 0, (some (84, true)), 0⟩,
    ⟨(some 87), .fld 2 (some 2) (.t 86), (some (84, true)), 0⟩,
    ⟨(some 88), .fad 0 (.t 11), (some (84, true)), 0⟩,
    ⟨(some 89), .ld (some 2) (.t 88), (some (84, true)), 0⟩,
    ⟨(some 90), .eq (.flat [.int .u32, .int .u16]) false (.t 87) (.t 89), (some (84, true)), 0⟩,
    ⟨(some 91), .pick (.t 84) (.t 90) (.c (.p (.o (.bool false)))), none, 0⟩,
    ⟨(some 92), .mv (.t 91), none, 0⟩,
    ⟨(some 93), .ld (some 4) (.t 11), (some (92, true)), 0⟩,
    ⟨(some 94), .call 29 [(.t 93)] 0, (some (92, true)), 0⟩,
    ⟨(some 95), .len false (.t 94), (some (92, true)), 0⟩,
    ⟨(some 96), .bin .eql (.t 95) (.c (.p (.o (.int .i64 12)))), (some (92, true)), 0⟩,
    ⟨(some 97), .pick (.t 92) (.t 96) (.c (.p (.o (.bool false)))), none, 0⟩,
    ⟨(some 98), .mv (.t 97), none, 0⟩,
    ⟨(some 99), .ld (some 4) (.t 11), (some (98, true)), 0⟩,
    ⟨(some 100), .ld (some 4) (.t 11), (some (98, true)), 0⟩,
    ⟨(some 101), .call 31 [(.t 99), (.t 100)] 0, (some (98, true)), 0⟩,
    ⟨(some 102), .bin .eql (.t 101) (.c (.p (.o (.int .i64 0)))), (some (98, true)), 0⟩,
    ⟨(some 103), .pick (.t 98) (.t 102) (.c (.p (.o (.bool false)))), none, 0⟩,
    ⟨(some 0), .mv (.t 103), none, 0⟩] 0 (some [(23, 24), (28, 29), (48, 51), (49, 51), (50, 51), (48, 52), (49, 52), (50, 52), (62, 63)])) .ret)))))))),
  [.tmp 0], 104, [0, 1, 2, 3, 4, 6, 8, 10, 11]⟩
theorem ok_law06_alive : cFn Tryd.prog eqsT newsT vf_law06_alive.keep Tryd.f16 = some vf_law06_alive := by kernel_rfl
set_option maxHeartbeats 8000000 in
theorem alive_det (hG : Tabs G) : Det G Tryd.prog 16 [] [] (vB true) [] := by
  have ps := pair_size 167838211 1 167837696 2
  refine can_of_W known mix Tryd.func16 (by kernel_rfl) ok_law06_alive (Nat.le_of_ble_eq_true rfl) ?_
  repeat' ((conv => whnf); first
    | ((with_reducible refine Look.mk ?_); refine ⟨_, rfl, ?_⟩)
    | ((with_reducible refine LookN.zeros ?_))
    | ((with_reducible refine LookN.bytes ?_ ?_); (simp; done))
    | ((with_reducible refine BytesW.bytes ?_))
    | ((with_reducible refine Look.byte ?_ ?_); omega)
    | ((with_reducible refine Look.setb ?_ ?_ ?_); exact bv8_bd _; omega)
    | ((with_reducible refine LookN.setb ?_ ?_ ?_); exact bv8_bd _; omega)
    | ((with_reducible refine LookN.mk ?_); refine ⟨_, rfl, ?_⟩)
    | ((with_reducible refine Need.mk ?_ ?_); first | ((with_reducible refine needB ?_); kernel_rfl) | with_reducible rfl | omega | (with_reducible refine ⟨rfl, ?_⟩; focus omega) | (simp only [ByteArray.size_append, size_lit, List.size_toArray, List.length_cons, List.length_nil, Sp.ofB_size, ByteArray.size_extract]; omega) | exact rfl | trivial | exact Nat.le_of_ble_eq_true rfl | (exact ⟨rfl, by omega⟩) | (intro h; first | rfl | cases h) | (simp only [lenS_text, lenS_setN, lenS_zeros]; omega))
    | ((with_reducible refine BytesW.mk ?_); refine ⟨_, rfl, ?_⟩)
    | (with_reducible refine CallW.det (pok1 hG) ?_)
    | (with_reducible refine CallW.det (pok2 hG) ?_)
    | (with_reducible refine CallW.det (pbad0 hG) ?_)
    | (with_reducible refine CallW.det (pbad1 hG) ?_)
    | (with_reducible refine CallW.det (pbad2 hG) ?_)
    | (with_reducible refine CallW.det (dtx3 hG) ?_)
    | (with_reducible refine CallW.det (dtx6 hG) ?_)
    | (with_reducible refine CallW.det (mask20) ?_)
    | (with_reducible refine CallW.det (in16) ?_)
    | (with_reducible refine CallW.det (in24) ?_)
    | (with_reducible refine CallW.det (kind1) ?_)
    | (with_reducible refine CallW.det (kind0) ?_)
    | (with_reducible refine CallW.det (cmp_same) ?_)
    | (with_reducible refine CallW.det (turn_det _ _ _ _) ?_)
    | (with_reducible refine CallW.det (bytes_det _ _ _ _ (by decide)) ?_)
    | ((with_reducible refine Test.tmodEqT ?_ ?_ ?_); omega; focus first | omega | assumption)
    | ((with_reducible refine Test.tmodEqF ?_ ?_ ?_); omega; focus first | omega | assumption)
    | ((with_reducible refine Test.tmodNeT ?_ ?_ ?_); omega; focus first | omega | assumption)
    | ((with_reducible refine Test.tmodNeF ?_ ?_ ?_); omega; focus first | omega | assumption)
    | ((with_reducible refine Test.tmodEq ?_ (fun h => ?_) (fun h => ?_)); omega)
    | ((with_reducible refine Test.tmodNe ?_ (fun h => ?_) (fun h => ?_)); omega)
    | ((with_reducible refine Test.notT ?_ ?_); focus assumption)
    | ((with_reducible refine Test.notF ?_ ?_); focus assumption)
    | (with_reducible refine Test.notIe (fun h => ?_) (fun h => ?_))
    | (with_reducible refine Test.notD (fun h => ?_) (fun h => ?_))
    | ((with_reducible refine Test.empty (fun h => ?_) (fun h => ?_)))
    | (with_reducible refine Test.tt ?_)
    | (with_reducible refine Test.ff ?_)
    | ((with_reducible refine Test.dt ?_ ?_); omega)
    | ((with_reducible refine Test.df ?_ ?_); omega)
    | (with_reducible refine Test.d (fun h => ?_) (fun h => ?_))
    | ((with_reducible refine Test.ieT ?_ ?_); omega)
    | ((with_reducible refine Test.ieF ?_ ?_); omega)
    | ((with_reducible refine Test.neT ?_ ?_); omega)
    | ((with_reducible refine Test.neF ?_ ?_); omega)
    | (with_reducible refine Test.ie (fun h => ?_) (fun h => ?_))
    | (with_reducible refine Test.ne (fun h => ?_) (fun h => ?_))
    | ((with_reducible refine Test.b ?_ ?_); (focus first | assumption | (simp [negB]; done) | exact rfl))
    | ((with_reducible refine Test.nb ?_ ?_); (focus first | assumption | (simp [negB]; done) | exact rfl))
    | (with_reducible refine Test.notS (fun h => ?_) (fun h => ?_))
    | (with_reducible refine Test.mk (fun h => ?_) (fun h => ?_))
    | ((with_reducible refine Arith.tdiv ?_ ?_); omega)
    | (with_reducible refine Arith.bv8 ?_)
    | (with_reducible refine Arith.bv16 ?_)
    | (with_reducible refine Arith.bv32 ?_)
    | (with_reducible refine Arith.bv64 ?_)
    | ((with_reducible refine Arith.i64 ?_ ?_); omega)
    | ((with_reducible refine Arith.u64 ?_ ?_); omega)
    | ((with_reducible refine Arith.u32 ?_ ?_); omega)
    | ((with_reducible refine Arith.u16 ?_ ?_); omega)
    | ((with_reducible refine Arith.u8 ?_ ?_); omega)
    | ((with_reducible refine Arith.i32 ?_ ?_); omega)
    | ((with_reducible refine Arith.i64 ?_ ?_); simp (discharger := omega) only [Int.tdiv_eq_ediv_of_nonneg, shr_u8_4, shl_u8_4, shr_u16_4, shl_u16_4, shr_u16_8, shl_u16_8, shr_u32_4, shl_u32_4, shr_u32_8, shl_u32_8, shr_u32_16, shl_u32_16, shr_u32_24, shl_u32_24, shr_u64_4, shl_u64_4, shr_u64_8, shl_u64_8, shr_u64_16, shl_u64_16, shr_u64_24, shl_u64_24, shr_u64_40, shl_u64_40, shr_i64_4, shl_i64_4, shr_i64_8, shl_i64_8, shr_i64_16, shl_i64_16, shr_i64_24, shl_i64_24, shr_i64_40, shl_i64_40]; omega)
    | ((with_reducible refine Arith.u64 ?_ ?_); simp (discharger := omega) only [Int.tdiv_eq_ediv_of_nonneg, shr_u8_4, shl_u8_4, shr_u16_4, shl_u16_4, shr_u16_8, shl_u16_8, shr_u32_4, shl_u32_4, shr_u32_8, shl_u32_8, shr_u32_16, shl_u32_16, shr_u32_24, shl_u32_24, shr_u64_4, shl_u64_4, shr_u64_8, shl_u64_8, shr_u64_16, shl_u64_16, shr_u64_24, shl_u64_24, shr_u64_40, shl_u64_40, shr_i64_4, shl_i64_4, shr_i64_8, shl_i64_8, shr_i64_16, shl_i64_16, shr_i64_24, shl_i64_24, shr_i64_40, shl_i64_40]; omega)
    | ((with_reducible refine Arith.u32 ?_ ?_); simp (discharger := omega) only [Int.tdiv_eq_ediv_of_nonneg, shr_u8_4, shl_u8_4, shr_u16_4, shl_u16_4, shr_u16_8, shl_u16_8, shr_u32_4, shl_u32_4, shr_u32_8, shl_u32_8, shr_u32_16, shl_u32_16, shr_u32_24, shl_u32_24, shr_u64_4, shl_u64_4, shr_u64_8, shl_u64_8, shr_u64_16, shl_u64_16, shr_u64_24, shl_u64_24, shr_u64_40, shl_u64_40, shr_i64_4, shl_i64_4, shr_i64_8, shl_i64_8, shr_i64_16, shl_i64_16, shr_i64_24, shl_i64_24, shr_i64_40, shl_i64_40]; omega)
    | ((with_reducible refine Arith.u16 ?_ ?_); simp (discharger := omega) only [Int.tdiv_eq_ediv_of_nonneg, shr_u8_4, shl_u8_4, shr_u16_4, shl_u16_4, shr_u16_8, shl_u16_8, shr_u32_4, shl_u32_4, shr_u32_8, shl_u32_8, shr_u32_16, shl_u32_16, shr_u32_24, shl_u32_24, shr_u64_4, shl_u64_4, shr_u64_8, shl_u64_8, shr_u64_16, shl_u64_16, shr_u64_24, shl_u64_24, shr_u64_40, shl_u64_40, shr_i64_4, shl_i64_4, shr_i64_8, shl_i64_8, shr_i64_16, shl_i64_16, shr_i64_24, shl_i64_24, shr_i64_40, shl_i64_40]; omega)
    | ((with_reducible refine Arith.u8 ?_ ?_); simp (discharger := omega) only [Int.tdiv_eq_ediv_of_nonneg, shr_u8_4, shl_u8_4, shr_u16_4, shl_u16_4, shr_u16_8, shl_u16_8, shr_u32_4, shl_u32_4, shr_u32_8, shl_u32_8, shr_u32_16, shl_u32_16, shr_u32_24, shl_u32_24, shr_u64_4, shl_u64_4, shr_u64_8, shl_u64_8, shr_u64_16, shl_u64_16, shr_u64_24, shl_u64_24, shr_u64_40, shl_u64_40, shr_i64_4, shl_i64_4, shr_i64_8, shl_i64_8, shr_i64_16, shl_i64_16, shr_i64_24, shl_i64_24, shr_i64_40, shl_i64_40]; omega)
    | (with_reducible refine Arith.mk ?_)
    | (with_reducible refine Ends.mk ?_))
  all_goals first | exact ⟨rfl, rfl⟩ | (refine ⟨?_, rfl⟩; simp_all; done)
end G4
end Go.Proofs.YtnikpanebkknfaaDoor.VM
