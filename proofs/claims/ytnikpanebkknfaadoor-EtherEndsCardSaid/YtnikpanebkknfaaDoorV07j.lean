/- law 07 by the evaluator: alive, EtherMacs, EtherTexts, EtherTells. -/
import Derived.Test.YtnikpanebkknfaaDoorV07i
import Derived.Test.YtnikpanebkknfaaDoorP07u
namespace Go.Proofs.YtnikpanebkknfaaDoor.VM
namespace G4
open Go.RowKit
set_option linter.unusedVariables false
set_option linter.unusedSimpArgs false
set_option maxRecDepth 100000
variable {G : Ground}
theorem macN_size (m : Nat) : (macB m).size = 17 := by
  have h := macB_list m
  have k := congrArg List.length h
  rw [Sp.size_toList] at k
  rw [k]
  have e : ∀ c, c < 256 → (hxL c).length = 2 := fun c hc => by obtain ⟨x, y, e, _⟩ := hxL_two hc; rw [e]; rfl
  simp only [List.length_append, List.length_cons, List.length_nil]
  rw [e _ (Nat.mod_lt _ (by decide)), e _ (Nat.mod_lt _ (by decide)), e _ (Nat.mod_lt _ (by decide)), e _ (Nat.mod_lt _ (by decide)), e _ (Nat.mod_lt _ (by decide)), e _ (Nat.mod_lt _ (by decide))]
theorem macB_size {m : Int} (h : 0 ≤ m) : (macB m).size = 17 := by
  obtain ⟨k, rfl⟩ := Int.eq_ofNat_of_zero_le h; exact macN_size k
theorem qA_bd (s : ByteArray) : 0 ≤ qA s ∧ qA s ≤ 281474976710655 := pu16_bd _
theorem peA_or (s : ByteArray) : peA s = 0 ∨ peA s = 8 := by unfold peA; split <;> simp
theorem pvA_bd (s : ByteArray) : 0 ≤ pvA s ∧ pvA s ≤ 281474976710655 := by
  have := qA_bd s; unfold pvA; split <;> omega
theorem peA_text {s : ByteArray} (h : peA s = 0) : macB (pvA s) = s := by
  unfold peA at h; unfold pvA
  split at h
  · rename_i e; rw [if_pos e]; exact e
  · simp at h
theorem read_text {m : Int} (h : 0 ≤ m ∧ m ≤ 281474976710655) : pvA (macB m) = m ∧ peA (macB m) = 0 := by
  obtain ⟨k, rfl⟩ := Int.eq_ofNat_of_zero_le h.1
  obtain ⟨e, -⟩ := read_of (m := k) (s := macB k) (by omega) rfl
  unfold pvA peA; rw [e, if_pos rfl, if_pos rfl]; exact ⟨rfl, rfl⟩
theorem text_inj' {a b : Int} (ha : 0 ≤ a ∧ a ≤ 281474976710655) (hb : 0 ≤ b ∧ b ≤ 281474976710655) : macB a = macB b ↔ a = b := by
  refine ⟨fun e => ?_, fun e => by rw [e]⟩
  have h1 := (read_text ha).1; rw [e, (read_text hb).1] at h1; exact h1.symm
theorem short_no {s : ByteArray} (h : s.size ≠ 17) : pvA s = 0 ∧ peA s = 8 := by
  have hn : ¬ macB (qA s) = s := fun e => h (by rw [← e]; exact macB_size (qA_bd s).1)
  unfold pvA peA; rw [if_neg hn, if_neg hn]; exact ⟨rfl, rfl⟩
theorem mac1 : macB 1 = ⟨#[48, 48, 58, 48, 48, 58, 48, 48, 58, 48, 48, 58, 48, 48, 58, 48, 49]⟩ := by decide +kernel
theorem alive_p1 (hG : Tabs G) (h7 : 8 ≤ G.n) (htz : G.w0.cell? ⟨7, 15, none⟩ = some (.int .u8 4)) : Det G Tryd.prog 36 [.o (.str ⟨#[48, 48, 58, 48, 48, 58, 48, 48, 58, 48, 48, 58, 48, 48, 58, 48, 49]⟩)] [] (.t [.o (.int .u64 1), .o (.int .i64 0)]) [] := by
  have h := eparse_det (G := G) hG h7 htz ⟨#[48, 48, 58, 48, 48, 58, 48, 48, 58, 48, 48, 58, 48, 48, 58, 48, 49]⟩ (by decide)
  rw [← mac1] at h ⊢
  rw [(read_text (m := 1) (by omega)).1, (read_text (m := 1) (by omega)).2] at h; exact h
theorem alive_p2 (hG : Tabs G) (h7 : 8 ≤ G.n) (htz : G.w0.cell? ⟨7, 15, none⟩ = some (.int .u8 4)) : Det G Tryd.prog 36 [.o (.str ⟨#[48, 58, 48, 58, 48, 58, 48, 58, 48, 58, 49]⟩)] [] (.t [.o (.int .u64 0), .o (.int .i64 8)]) [] := by
  have h := eparse_det (G := G) hG h7 htz ⟨#[48, 58, 48, 58, 48, 58, 48, 58, 48, 58, 49]⟩ (by decide)
  rw [(short_no (s := ⟨#[48, 58, 48, 58, 48, 58, 48, 58, 48, 58, 49]⟩) (by decide)).1, (short_no (s := ⟨#[48, 58, 48, 58, 48, 58, 48, 58, 48, 58, 49]⟩) (by decide)).2] at h; exact h
theorem alive_t (hG : Tabs G) (h7 : 8 ≤ G.n) (htz : G.w0.cell? ⟨7, 15, none⟩ = some (.int .u8 4)) : Det G Tryd.prog 38 [.o (.int .u64 1)] [] (vS ⟨#[48, 48, 58, 48, 48, 58, 48, 48, 58, 48, 48, 58, 48, 48, 58, 48, 49]⟩) [] := by
  have h := mtext_det (G := G) h7 htz 1 (by omega)
  rw [mac1] at h; exact h

theorem rparse_same (s : ByteArray) (hs : s.size ≤ 1000000) : Det G Tryd.prog 37 [.o (.str s)] [] (.t [.o (.int .u64 (pvA s)), .o (.int .i64 (peA s))]) [] := by
  have h := rparse7_det (G := G) s hs
  rw [← (parse_same s).1, ← (parse_same s).2] at h; exact h

/-- The frame of alive. -/
def fr0 : ByteArray := enc7 1 2 2048 ⟨#[97, 98]⟩
theorem alive_e : Det G Tryd.prog 13 [.a [.int .u64 1, .int .u64 2, .int .u16 2048, .str ⟨#[97, 98]⟩]] [] (.t [.o (.str fr0), .o (.int .i64 0)]) [] := by
  have h := enc_det (G := G) 1 2 2048 ⟨#[97, 98]⟩ (by omega) (by omega) (by omega) (by decide)
  rw [show encS 1 2 2048 ⟨#[97, 98]⟩ = fr0 by decide +kernel, show encE 1 2 ⟨#[97, 98]⟩ = 0 by decide +kernel] at h; exact h
theorem alive_d : Det G Tryd.prog 14 [.o (.str fr0)] [] (.t [.a [.int .u64 1, .int .u64 2, .int .u16 2048, .str (⟨#[97, 98]⟩ ++ zer 44)], .o (.int .i64 0)]) [] := by
  have h := dec_det (G := G) fr0 (by decide +kernel)
  rw [show dT fr0 = 1 by decide +kernel, show dF fr0 = 2 by decide +kernel, show dK fr0 = 2048 by decide +kernel, show dD fr0 = ⟨#[97, 98]⟩ ++ zer 44 by decide +kernel, show decE fr0 = 0 by decide +kernel] at h; exact h
theorem alive_d2 : Det G Tryd.prog 14 [.o (.str (zer 59))] [] (.t [.a [.int .u64 0, .int .u64 0, .int .u16 0, .str ⟨#[]⟩], .o (.int .i64 10)]) [] := by
  have h := dec_det (G := G) (zer 59) (by decide +kernel)
  rw [show dT (zer 59) = 0 by decide +kernel, show dF (zer 59) = 0 by decide +kernel, show dK (zer 59) = 0 by decide +kernel, show dD (zer 59) = ⟨#[]⟩ by decide +kernel, show decE (zer 59) = 10 by decide +kernel] at h; exact h

def vf_law07_Long : VFn := ⟨(.seq (.reg [
    ⟨(some 1), .box (.t 0), none, 0⟩,
    ⟨(some 2), .mv (.c (.p (.o (.bool false)))), none, 1⟩] 1 none) (.seq (.reg [
    ⟨(some 3), .fad 3 (.t 1), none, 0⟩,
    ⟨(some 4), .ld none (.t 3), none, 0⟩,
    ⟨(some 5), .len false (.t 4), none, 0⟩,
    ⟨(some 6), .bin .gtr (.t 5) (.c (.p (.o (.int .i64 131072)))), none, 0⟩,
    ⟨(some 2), .mv (.t 6), none, 0⟩] 0 none) .ret)),
  [.tmp 2], 7, [0, 1, 2]⟩
theorem ok_law07_Long : cFn Tryd.prog eqsT newsT vf_law07_Long.keep Tryd.f33 = some vf_law07_Long := by kernel_rfl
def vf_law07_alive : VFn := ⟨(.seq (.reg [
    ⟨(some 0), .mv (.c (.p (.o (.bool false)))), none, 0⟩] 0 none) (.seq (.reg [
    ⟨(some 12), .bld [.int .u64 0, .int .u64 0, .int .u16 0, .str ⟨#[]⟩] [(0, 1, (.c (.p (.o (.int .u64 1))))), (1, 1, (.c (.p (.o (.int .u64 2))))), (2, 1, (.c (.p (.o (.int .u16 2048))))), (3, 1, (.c (.p (.o (.str ⟨#[97, 98]⟩)))))], none, 0⟩,
    ⟨(some 13), .call 13 [(.t 12)] 0, none, 0⟩,
    ⟨(some 11), .mv (.t 13), none, 0⟩,
    ⟨(some 14), .ext 0 (.t 11), none, 0⟩,
    ⟨(some 15), .ext 1 (.t 11), none, 0⟩,
    ⟨(some 1), .mv (.t 14), none, 0⟩,
    ⟨(some 2), .mv (.t 15), none, 0⟩] 0 none) (.seq (.reg [
    ⟨(some 17), .mv (.t 1), none, 0⟩,
    ⟨(some 18), .call 14 [(.t 17)] 0, none, 0⟩,
    ⟨(some 16), .mv (.t 18), none, 0⟩,
    ⟨(some 19), .ext 0 (.t 16), none, 0⟩,
    ⟨(some 20), .ext 1 (.t 16), none, 0⟩,
    ⟨(some 3), .new [.int .u64 0, .int .u64 0, .int .u16 0, .str ⟨#[]⟩], none, 0⟩,
    ⟨none, .st 4 (.t 3) (.t 19), none, 1⟩,
    ⟨(some 4), .mv (.t 20), none, 1⟩] 1 none) (.seq (.reg [
    ⟨(some 22), .mks 1 1 [.int .u8 0] (.c (.p (.o (.int .i64 59)))) (.c (.p (.o (.int .i64 59)))), none, 0⟩,
    ⟨(some 23), .b2s (.t 22), none, 1⟩,
    ⟨(some 24), .call 14 [(.t 23)] 0, none, 1⟩,
    ⟨(some 21), .mv (.t 24), none, 1⟩,
    ⟨(some 25), .ext 0 (.t 21), none, 1⟩,
    ⟨(some 26), .ext 1 (.t 21), none, 1⟩,
    ⟨(some 5), .new [.int .u64 0, .int .u64 0, .int .u16 0, .str ⟨#[]⟩], none, 1⟩,
    ⟨none, .st 4 (.t 5) (.t 25), none, 2⟩,
    ⟨(some 6), .mv (.t 26), none, 2⟩] 2 none) (.seq (.reg [
    ⟨(some 28), .call 36 [(.c (.p (.o (.str ⟨#[48, 48, 58, 48, 48, 58, 48, 48, 58, 48, 48, 58, 48, 48, 58, 48, 49]⟩))))] 0, none, 0⟩,
    ⟨(some 27), .mv (.t 28), none, 0⟩,
    ⟨(some 29), .ext 0 (.t 27), none, 0⟩,
    ⟨(some 30), .ext 1 (.t 27), none, 0⟩,
    ⟨(some 7), .mv (.t 29), none, 0⟩,
    ⟨(some 8), .mv (.t 30), none, 0⟩] 0 none) (.seq (.reg [
    ⟨(some 32), .call 36 [(.c (.p (.o (.str ⟨#[48, 58, 48, 58, 48, 58, 48, 58, 48, 58, 49]⟩))))] 0, none, 0⟩,
    ⟨(some 31), .mv (.t 32), none, 0⟩,
    ⟨(some 33), .ext 0 (.t 31), none, 0⟩,
    ⟨(some 34), .ext 1 (.t 31), none, 0⟩,
    ⟨(some 9), .mv (.t 33), none, 0⟩,
    ⟨(some 10), .mv (.t 34), none, 0⟩] 0 none) (.seq (.reg [
    ⟨(some 35), .mv (.t 1), none, 0⟩,
    ⟨(some 36), .len false (.t 35), none, 0⟩,
    ⟨(some 37), .bin .eql (.t 36) (.c (.p (.o (.int .i64 60)))), none, 0⟩,
    ⟨(some 38), .mv (.t 37), none, 0⟩,
    ⟨(some 39), .mv (.t 2), (some (38, true)), 0⟩,
    ⟨(some 40), .bin .eql (.t 39) (.c (.p (.o (.int .i64 0)))), (some (38, true)), 0⟩,
    ⟨(some 41), .pick (.t 38) (.t 40) (.c (.p (.o (.bool false)))), none, 0⟩,
    ⟨(some 42), .mv (.t 41), none, 0⟩,
    ⟨(some 43), .mv (.t 4), (some (42, true)), 0⟩,
    ⟨(some 44), .bin .eql (.t 43) (.c (.p (.o (.int .i64 0)))), (some (42, true)), 0⟩,
    ⟨(some 45), .pick (.t 42) (.t 44) (.c (.p (.o (.bool false)))), none, 0⟩,
    ⟨(some 46), .mv (.t 45), none, 0⟩,
    ⟨(some 47), .fad 0 (.t 3), (some (46, true)), 0⟩,
    ⟨(some 48), .ld none (.t 47), (some (46, true)), 0⟩,
    ⟨(some 49), .bin .eql (.t 48) (.c (.p (.o (.int .u64 1)))), (some (46, true)), 0⟩,
    ⟨(some 50), .pick (.t 46) (.t 49) (.c (.p (.o (.bool false)))), none, 0⟩,
    ⟨(some 51), .mv (.t 50), none, 0⟩,
    ⟨(some 52), .fad 1 (.t 3), (some (51, true)), 0⟩,
    ⟨(some 53), .ld none (.t 52), (some (51, true)), 0⟩,
    ⟨(some 54), .bin .eql (.t 53) (.c (.p (.o (.int .u64 2)))), (some (51, true)), 0⟩,
    ⟨(some 55), .pick (.t 51) (.t 54) (.c (.p (.o (.bool false)))), none, 0⟩,
    ⟨(some 56), .mv (.t 55), none, 0⟩,
    ⟨(some 57), .fad 2 (.t 3), (some (56, true)), 0⟩,
    ⟨(some 58), .ld none (.t 57), (some (56, true)), 0⟩,
    ⟨(some 59), .bin .eql (.t 58) (.c (.p (.o (.int .u16 2048)))), (some (56, true)), 0⟩,
    ⟨(some 60), .pick (.t 56) (.t 59) (.c (.p (.o (.bool false)))), none, 0⟩,
    ⟨(some 61), .mv (.t 60), none, 0⟩,
    ⟨(some 62), .fad 3 (.t 3), (some (61, true)), 0⟩,
    ⟨(some 63), .ld none (.t 62), (some (61, true)), 0⟩,
    ⟨(some 64), .len false (.t 63), (some (61, true)), 0⟩,
    ⟨(some 65), .bin .eql (.t 64) (.c (.p (.o (.int .i64 46)))), (some (61, true)), 0⟩,
    ⟨(some 66), .pick (.t 61) (.t 65) (.c (.p (.o (.bool false)))), none, 0⟩,
    ⟨(some 67), .mv (.t 66), none, 0⟩,
    ⟨(some 68), .fad 3 (.t 3), (some (67, true)), 0⟩,
    ⟨(some 69), .ld none (.t 68), (some (67, true)), 0⟩,
    ⟨(some 70), .sls (.t 69) none (some (.c (.p (.o (.int .i64 2))))), (some (67, true)), 0⟩,
    ⟨(some 71), .bin .eql (.t 70) (.c (.p (.o (.str ⟨#[97, 98]⟩)))), (some (67, true)), 0⟩,
    ⟨(some 72), .pick (.t 67) (.t 71) (.c (.p (.o (.bool false)))), none, 0⟩,
    ⟨(some 73), .mv (.t 72), none, 0⟩,
    ⟨(some 74), .mv (.t 6), (some (73, true)), 0⟩,
    ⟨(some 75), .bin .eql (.t 74) (.c (.p (.o (.int .i64 10)))), (some (73, true)), 0⟩,
    ⟨(some 76), .pick (.t 73) (.t 75) (.c (.p (.o (.bool false)))), none, 0⟩,
    ⟨(some 77), .mv (.t 76), none, 0⟩,
    ⟨(some 78), .call 38 [(.c (.p (.o (.int .u64 1))))] 0, (some (77, true)), 0⟩,
    ⟨(some 79), .bin .eql (.t 78) (.c (.p (.o (.str ⟨#[48, 48, 58, 48, 48, 58, 48, 48, 58, 48, 48, 58, 48, 48, 58, 48, 49]⟩)))), (some (77, true)), 0⟩,
    ⟨(some 80), .pick (.t 77) (.t 79) (.c (.p (.o (.bool false)))), none, 0⟩,
    ⟨(some 81), .mv (.t 80), none, 0⟩,
    ⟨(some 82), .mv (.t 7), (some (81, true)), 0⟩,
    ⟨(some 83), .bin .eql (.t 82) (.c (.p (.o (.int .u64 1)))), (some (81, true)), 0⟩,
    ⟨(some 84), .pick (.t 81) (.t 83) (.c (.p (.o (.bool false)))), none, 0⟩,
    ⟨(some 85), .mv (.t 84), none, 0⟩,
    ⟨(some 86), .mv (.t 8), (some (85, true)), 0⟩,
    ⟨(some 87), .bin .eql (.t 86) (.c (.p (.o (.int .i64 0)))), (some (85, true)), 0⟩,
    ⟨(some 88), .pick (.t 85) (.t 87) (.c (.p (.o (.bool false)))), none, 0⟩,
    ⟨(some 89), .mv (.t 88), none, 0⟩,
    ⟨(some 90), .mv (.t 10), (some (89, true)), 0⟩,
    ⟨(some 91), .bin .eql (.t 90) (.c (.p (.o (.int .i64 8)))), (some (89, true)), 0⟩,
    ⟨(some 92), .pick (.t 89) (.t 91) (.c (.p (.o (.bool false)))), none, 0⟩,
    ⟨(some 93), .mv (.t 92), none, 0⟩,
    ⟨(some 94), .ld (some 4) (.t 3), (some (93, true)), 0⟩,
    ⟨(some 95), .call 40 [(.t 94), (.c (.p (.o (.int .u64 1))))] 0, (some (93, true)), 0⟩,
    ⟨(some 96), .pick (.t 93) (.t 95) (.c (.p (.o (.bool false)))), none, 0⟩,
    ⟨(some 97), .mv (.t 96), none, 0⟩,
    ⟨(some 98), .ld (some 4) (.t 3), (some (97, true)), 0⟩,
    ⟨(some 99), .call 40 [(.t 98), (.c (.p (.o (.int .u64 2))))] 0, (some (97, true)), 0⟩,
    ⟨(some 100), .un .not (.t 99), (some (97, true)), 0⟩,
    ⟨(some 101), .pick (.t 97) (.t 100) (.c (.p (.o (.bool false)))), none, 0⟩,
    ⟨(some 0), .mv (.t 101), none, 0⟩] 0 none) .ret))))))),
  [.tmp 0], 102, [0, 1, 2, 3, 4, 6, 7, 8, 10]⟩
theorem ok_law07_alive : cFn Tryd.prog eqsT newsT vf_law07_alive.keep Tryd.f15 = some vf_law07_alive := by kernel_rfl
def vf_law07_EtherMacs : VFn := ⟨(.seq (.reg [
    ⟨(some 5), .box (.t 2), none, 0⟩,
    ⟨(some 6), .mv (.c (.p (.o (.bool false)))), none, 1⟩] 1 none) (.seq (.seq (.reg [
    ⟨(some 11), .ld (some 4) (.t 5), none, 0⟩,
    ⟨(some 12), .call 33 [(.t 11)] 0, none, 0⟩,
    ⟨(some 13), .mv (.t 12), none, 0⟩,
    ⟨(some 14), .mv (.t 1), (some (13, false)), 0⟩,
    ⟨(some 15), .len false (.t 14), (some (13, false)), 0⟩,
    ⟨(some 16), .bin .gtr (.t 15) (.c (.p (.o (.int .i64 256)))), (some (13, false)), 0⟩,
    ⟨(some 17), .pick (.t 13) (.c (.p (.o (.bool true)))) (.t 16), none, 0⟩] 0 none) (.cond (.t 17) (.seq (.reg [
    ⟨(some 18), .call 15 [] 0, none, 0⟩,
    ⟨(some 6), .mv (.t 18), none, 0⟩] 0 none) .ret) .skip)) (.seq (.reg [
    ⟨(some 20), .mv (.t 1), none, 0⟩,
    ⟨(some 21), .call 36 [(.t 20)] 0, none, 0⟩,
    ⟨(some 19), .mv (.t 21), none, 0⟩,
    ⟨(some 22), .ext 0 (.t 19), none, 0⟩,
    ⟨(some 23), .ext 1 (.t 19), none, 0⟩,
    ⟨(some 7), .mv (.t 22), none, 0⟩,
    ⟨(some 8), .mv (.t 23), none, 0⟩] 0 none) (.seq (.reg [
    ⟨(some 25), .mv (.t 1), none, 0⟩,
    ⟨(some 26), .call 37 [(.t 25)] 0, none, 0⟩,
    ⟨(some 24), .mv (.t 26), none, 0⟩,
    ⟨(some 27), .ext 0 (.t 24), none, 0⟩,
    ⟨(some 28), .ext 1 (.t 24), none, 0⟩,
    ⟨(some 9), .mv (.t 27), none, 0⟩,
    ⟨(some 10), .mv (.t 28), none, 0⟩] 0 none) (.seq (.reg [
    ⟨(some 29), .mv (.t 0), none, 0⟩,
    ⟨(some 30), .call 38 [(.t 29)] 0, none, 0⟩,
    ⟨(some 31), .mv (.t 0), none, 0⟩,
    ⟨(some 32), .call 39 [(.t 31)] 0, none, 0⟩,
    ⟨(some 33), .bin .eql (.t 30) (.t 32), none, 0⟩,
    ⟨(some 34), .mv (.t 33), none, 0⟩,
    ⟨(some 35), .mv (.t 7), (some (34, true)), 0⟩,
    ⟨(some 36), .mv (.t 9), (some (34, true)), 0⟩,
    ⟨(some 37), .bin .eql (.t 35) (.t 36), (some (34, true)), 0⟩,
    ⟨(some 38), .pick (.t 34) (.t 37) (.c (.p (.o (.bool false)))), none, 0⟩,
    ⟨(some 39), .mv (.t 38), none, 0⟩,
    ⟨(some 40), .mv (.t 8), (some (39, true)), 0⟩,
    ⟨(some 41), .mv (.t 10), (some (39, true)), 0⟩,
    ⟨(some 42), .bin .eql (.t 40) (.t 41), (some (39, true)), 0⟩,
    ⟨(some 43), .pick (.t 39) (.t 42) (.c (.p (.o (.bool false)))), none, 0⟩,
    ⟨(some 44), .mv (.t 43), none, 0⟩,
    ⟨(some 45), .ld (some 4) (.t 5), (some (44, true)), 0⟩,
    ⟨(some 46), .mv (.t 0), (some (44, true)), 0⟩,
    ⟨(some 47), .call 40 [(.t 45), (.t 46)] 0, (some (44, true)), 0⟩,
    ⟨(some 48), .ld (some 4) (.t 5), (some (44, true)), 0⟩,
    ⟨(some 49), .mv (.t 0), (some (44, true)), 0⟩,
    ⟨(some 50), .call 41 [(.t 48), (.t 49)] 0, (some (44, true)), 0⟩,
    ⟨(some 51), .eq .bool false (.t 47) (.t 50), (some (44, true)), 0⟩,
    ⟨(some 52), .pick (.t 44) (.t 51) (.c (.p (.o (.bool false)))), none, 0⟩,
    ⟨(some 53), .mv (.t 52), none, 0⟩,
    ⟨(some 54), .call 15 [] 0, (some (53, true)), 0⟩,
    ⟨(some 55), .pick (.t 53) (.t 54) (.c (.p (.o (.bool false)))), none, 0⟩,
    ⟨(some 6), .mv (.t 55), none, 0⟩] 0 (some [(0, 2), (1, 2), (6, 7), (11, 12), (16, 17), (16, 19), (17, 19), (18, 19), (16, 20), (17, 20), (18, 20), (19, 20)])) .ret))))),
  [.tmp 6], 56, [0, 1, 2, 5, 6, 7, 8, 9, 10]⟩
theorem ok_law07_EtherMacs : cFn Tryd.prog eqsT newsT vf_law07_EtherMacs.keep Tryd.f10 = some vf_law07_EtherMacs := by kernel_rfl
def vf_law07_EtherTells : VFn := ⟨(.seq (.reg [
    ⟨(some 2), .box (.t 0), none, 0⟩,
    ⟨(some 4), .mv (.c (.p (.o (.bool false)))), none, 1⟩] 1 none) (.seq (.seq (.reg [
    ⟨(some 13), .ld (some 4) (.t 2), none, 0⟩,
    ⟨(some 14), .call 33 [(.t 13)] 0, none, 0⟩,
    ⟨(some 15), .mv (.t 14), none, 0⟩,
    ⟨(some 16), .mv (.t 1), (some (15, false)), 0⟩,
    ⟨(some 17), .len false (.t 16), (some (15, false)), 0⟩,
    ⟨(some 18), .bin .gtr (.t 17) (.c (.p (.o (.int .i64 131072)))), (some (15, false)), 0⟩,
    ⟨(some 19), .pick (.t 15) (.c (.p (.o (.bool true)))) (.t 18), none, 0⟩] 0 none) (.cond (.t 19) (.seq (.reg [
    ⟨(some 20), .call 15 [] 0, none, 0⟩,
    ⟨(some 4), .mv (.t 20), none, 0⟩] 0 none) .ret) .skip)) (.seq (.reg [
    ⟨(some 22), .ld (some 4) (.t 2), none, 0⟩,
    ⟨(some 23), .call 13 [(.t 22)] 0, none, 0⟩,
    ⟨(some 21), .mv (.t 23), none, 0⟩,
    ⟨(some 24), .ext 0 (.t 21), none, 0⟩,
    ⟨(some 25), .ext 1 (.t 21), none, 0⟩,
    ⟨(some 5), .mv (.t 24), none, 0⟩,
    ⟨(some 6), .mv (.t 25), none, 0⟩] 0 none) (.seq (.reg [
    ⟨(some 27), .ld (some 4) (.t 2), none, 0⟩,
    ⟨(some 28), .call 34 [(.t 27)] 0, none, 0⟩,
    ⟨(some 26), .mv (.t 28), none, 0⟩,
    ⟨(some 29), .ext 0 (.t 26), none, 0⟩,
    ⟨(some 30), .ext 1 (.t 26), none, 0⟩,
    ⟨(some 7), .mv (.t 29), none, 0⟩,
    ⟨(some 8), .mv (.t 30), none, 0⟩] 0 none) (.seq (.reg [
    ⟨(some 32), .mv (.t 1), none, 0⟩,
    ⟨(some 33), .call 14 [(.t 32)] 0, none, 0⟩,
    ⟨(some 31), .mv (.t 33), none, 0⟩,
    ⟨(some 34), .ext 0 (.t 31), none, 0⟩,
    ⟨(some 35), .ext 1 (.t 31), none, 0⟩,
    ⟨(some 9), .new [.int .u64 0, .int .u64 0, .int .u16 0, .str ⟨#[]⟩], none, 0⟩,
    ⟨none, .st 4 (.t 9) (.t 34), none, 1⟩,
    ⟨(some 10), .mv (.t 35), none, 1⟩] 1 none) (.seq (.reg [
    ⟨(some 37), .mv (.t 1), none, 0⟩,
    ⟨(some 38), .call 35 [(.t 37)] 0, none, 0⟩,
    ⟨(some 36), .mv (.t 38), none, 0⟩,
    ⟨(some 39), .ext 0 (.t 36), none, 0⟩,
    ⟨(some 40), .ext 1 (.t 36), none, 0⟩,
    ⟨(some 11), .new [.int .u64 0, .int .u64 0, .int .u16 0, .str ⟨#[]⟩], none, 0⟩,
    ⟨none, .st 4 (.t 11) (.t 39), none, 1⟩,
    ⟨(some 12), .mv (.t 40), none, 1⟩] 1 none) (.seq (.reg [
    ⟨(some 41), .mv (.t 5), none, 0⟩,
    ⟨(some 42), .mv (.t 7), none, 0⟩,
    ⟨(some 43), .bin .eql (.t 41) (.t 42), none, 0⟩,
    ⟨(some 44), .mv (.t 43), none, 0⟩,
    ⟨(some 45), .mv (.t 6), (some (44, true)), 0⟩,
    ⟨(some 46), .mv (.t 8), (some (44, true)), 0⟩,
    ⟨(some 47), .bin .eql (.t 45) (.t 46), (some (44, true)), 0⟩,
    ⟨(some 48), .pick (.t 44) (.t 47) (.c (.p (.o (.bool false)))), none, 0⟩,
    ⟨(some 49), .mv (.t 48), none, 0⟩,
    ⟨(some 50), .ld (some 4) (.t 9), (some (49, true)), 0⟩,
    ⟨(some 51), .ld (some 4) (.t 11), (some (49, true)), 0⟩,
    ⟨(some 52), .eq (.flat [.int .u64, .int .u64, .int .u16, .str]) false (.t 50) (.t 51), (some (49, true)), 0⟩,
    ⟨(some 53), .pick (.t 49) (.t 52) (.c (.p (.o (.bool false)))), none, 0⟩,
    ⟨(some 54), .mv (.t 53), none, 0⟩,
    ⟨(some 55), .mv (.t 10), (some (54, true)), 0⟩,
    ⟨(some 56), .mv (.t 12), (some (54, true)), 0⟩,
    ⟨(some 57), .bin .eql (.t 55) (.t 56), (some (54, true)), 0⟩,
    ⟨(some 58), .pick (.t 54) (.t 57) (.c (.p (.o (.bool false)))), none, 0⟩,
    ⟨(some 59), .mv (.t 58), none, 0⟩,
    ⟨(some 60), .call 15 [] 0, (some (59, true)), 0⟩,
    ⟨(some 61), .pick (.t 59) (.t 60) (.c (.p (.o (.bool false)))), none, 0⟩,
    ⟨(some 4), .mv (.t 61), none, 0⟩] 0 none) .ret))))))),
  [.tmp 4], 62, [0, 1, 2, 4, 5, 6, 7, 8, 9, 10, 11, 12]⟩
theorem ok_law07_EtherTells : cFn Tryd.prog eqsT newsT vf_law07_EtherTells.keep Tryd.f9 = some vf_law07_EtherTells := by kernel_rfl
set_option maxHeartbeats 4000000 in
theorem long_det (t f k : Int) (d : ByteArray) : Det G Tryd.prog 33 [.a [.int .u64 t, .int .u64 f, .int .u16 k, .str d]] [] (vB (decide ((d.size : Int) > 131072))) [] := by
  refine can_of_W known mix Tryd.func33 (by kernel_rfl) ok_law07_Long (Nat.le_of_ble_eq_true rfl) ?_
  repeat' ((conv => whnf); first
    | ((with_reducible refine Look.mk ?_); refine ⟨_, rfl, ?_⟩)
    | ((with_reducible refine LookN.zeros ?_))
    | ((with_reducible refine LookN.bytes ?_ ?_); (simp; done))
    | ((with_reducible refine BytesW.bytes ?_))
    | ((with_reducible refine Look.byte ?_ ?_); omega)
    | ((with_reducible refine Look.setb ?_ ?_ ?_); exact bv8_bd _; omega)
    | ((with_reducible refine LookN.setb ?_ ?_ ?_); exact bv8_bd _; omega)
    | ((with_reducible refine LookN.mk ?_); refine ⟨_, rfl, ?_⟩)
    | ((with_reducible refine Need.mk ?_ ?_); first | ((with_reducible refine needB ?_); kernel_rfl) | with_reducible rfl | omega | (with_reducible refine ⟨rfl, ?_⟩; focus omega) | (simp only [ByteArray.size_append, size_lit, List.size_toArray, List.length_cons, List.length_nil, Sp.ofB_size, ByteArray.size_extract, hdr7_size, enc7_size, zer_size, macB_size]; omega) | exact rfl | trivial | exact Nat.le_of_ble_eq_true rfl | (exact ⟨rfl, by omega⟩) | (intro h; first | rfl | cases h) | (simp only [lenS_text, lenS_setN, lenS_zeros]; omega))
    | ((with_reducible refine BytesW.mk ?_); refine ⟨_, rfl, ?_⟩)
    | ((with_reducible refine WrT.same ?_ ?_); focus (repeat (first | exact trivial | ((conv => whnf); refine ⟨rfl, ?_⟩))))
    | (with_reducible refine WrT.all ?_)
    | ((with_reducible refine Test.tmodEqT ?_ ?_ ?_); omega; focus first | omega | assumption)
    | ((with_reducible refine Test.tmodEqF ?_ ?_ ?_); omega; focus first | omega | assumption)
    | ((with_reducible refine Test.tmodNeT ?_ ?_ ?_); omega; focus first | omega | assumption)
    | ((with_reducible refine Test.tmodNeF ?_ ?_ ?_); omega; focus first | omega | assumption)
    | ((with_reducible refine Test.tmodEq ?_ (fun h => ?_) (fun h => ?_)); omega)
    | ((with_reducible refine Test.tmodNe ?_ (fun h => ?_) (fun h => ?_)); omega)
    | ((with_reducible refine Test.notT ?_ ?_); focus assumption)
    | ((with_reducible refine Test.notF ?_ ?_); focus assumption)
    | (with_reducible refine Test.notIe (fun h => ?_) (fun h => ?_))
    | (with_reducible refine Test.notD (fun h => ?_) (fun h => ?_))
    | ((with_reducible refine Test.empty (fun h => ?_) (fun h => ?_)))
    | (with_reducible refine Test.tt ?_)
    | (with_reducible refine Test.ff ?_)
    | ((with_reducible refine Test.dt ?_ ?_); omega)
    | ((with_reducible refine Test.df ?_ ?_); omega)
    | (with_reducible refine Test.d (fun h => ?_) (fun h => ?_))
    | ((with_reducible refine Test.ieT ?_ ?_); omega)
    | ((with_reducible refine Test.ieF ?_ ?_); omega)
    | ((with_reducible refine Test.neT ?_ ?_); omega)
    | ((with_reducible refine Test.neF ?_ ?_); omega)
    | (with_reducible refine Test.ie (fun h => ?_) (fun h => ?_))
    | (with_reducible refine Test.ne (fun h => ?_) (fun h => ?_))
    | ((with_reducible refine Test.b ?_ ?_); (focus first | assumption | (simp [negB]; done) | exact rfl))
    | ((with_reducible refine Test.nb ?_ ?_); (focus first | assumption | (simp [negB]; done) | exact rfl))
    | (with_reducible refine Test.notS (fun h => ?_) (fun h => ?_))
    | (with_reducible refine Test.mk (fun h => ?_) (fun h => ?_))
    | ((with_reducible refine Arith.andu64_1 ?_ ?_); omega)
    | ((with_reducible refine Arith.m48 ?_ ?_); omega)
    | ((with_reducible refine Arith.tdiv ?_ ?_); omega)
    | (with_reducible refine Arith.bv8 ?_)
    | (with_reducible refine Arith.bv16 ?_)
    | (with_reducible refine Arith.bv32 ?_)
    | (with_reducible refine Arith.bv64 ?_)
    | ((with_reducible refine Arith.i64 ?_ ?_); omega)
    | ((with_reducible refine Arith.u64 ?_ ?_); omega)
    | ((with_reducible refine Arith.u32 ?_ ?_); omega)
    | ((with_reducible refine Arith.u16 ?_ ?_); omega)
    | ((with_reducible refine Arith.u8 ?_ ?_); omega)
    | ((with_reducible refine Arith.i32 ?_ ?_); omega)
    | ((with_reducible refine Arith.i64 ?_ ?_); simp (discharger := omega) only [Int.tdiv_eq_ediv_of_nonneg, shr_u8_4, shl_u8_4, shr_u16_4, shl_u16_4, shr_u16_8, shl_u16_8, shr_u32_4, shl_u32_4, shr_u32_8, shl_u32_8, shr_u32_16, shl_u32_16, shr_u32_24, shl_u32_24, shr_u64_4, shl_u64_4, shr_u64_8, shl_u64_8, shr_u64_16, shl_u64_16, shr_u64_24, shl_u64_24, shr_u64_40, shl_u64_40, shr_i64_4, shl_i64_4, shr_i64_8, shl_i64_8, shr_i64_16, shl_i64_16, shr_i64_24, shl_i64_24, shr_i64_40, shl_i64_40]; omega)
    | ((with_reducible refine Arith.u64 ?_ ?_); simp (discharger := omega) only [Int.tdiv_eq_ediv_of_nonneg, shr_u8_4, shl_u8_4, shr_u16_4, shl_u16_4, shr_u16_8, shl_u16_8, shr_u32_4, shl_u32_4, shr_u32_8, shl_u32_8, shr_u32_16, shl_u32_16, shr_u32_24, shl_u32_24, shr_u64_4, shl_u64_4, shr_u64_8, shl_u64_8, shr_u64_16, shl_u64_16, shr_u64_24, shl_u64_24, shr_u64_40, shl_u64_40, shr_i64_4, shl_i64_4, shr_i64_8, shl_i64_8, shr_i64_16, shl_i64_16, shr_i64_24, shl_i64_24, shr_i64_40, shl_i64_40]; omega)
    | ((with_reducible refine Arith.u32 ?_ ?_); simp (discharger := omega) only [Int.tdiv_eq_ediv_of_nonneg, shr_u8_4, shl_u8_4, shr_u16_4, shl_u16_4, shr_u16_8, shl_u16_8, shr_u32_4, shl_u32_4, shr_u32_8, shl_u32_8, shr_u32_16, shl_u32_16, shr_u32_24, shl_u32_24, shr_u64_4, shl_u64_4, shr_u64_8, shl_u64_8, shr_u64_16, shl_u64_16, shr_u64_24, shl_u64_24, shr_u64_40, shl_u64_40, shr_i64_4, shl_i64_4, shr_i64_8, shl_i64_8, shr_i64_16, shl_i64_16, shr_i64_24, shl_i64_24, shr_i64_40, shl_i64_40]; omega)
    | ((with_reducible refine Arith.u16 ?_ ?_); simp (discharger := omega) only [Int.tdiv_eq_ediv_of_nonneg, shr_u8_4, shl_u8_4, shr_u16_4, shl_u16_4, shr_u16_8, shl_u16_8, shr_u32_4, shl_u32_4, shr_u32_8, shl_u32_8, shr_u32_16, shl_u32_16, shr_u32_24, shl_u32_24, shr_u64_4, shl_u64_4, shr_u64_8, shl_u64_8, shr_u64_16, shl_u64_16, shr_u64_24, shl_u64_24, shr_u64_40, shl_u64_40, shr_i64_4, shl_i64_4, shr_i64_8, shl_i64_8, shr_i64_16, shl_i64_16, shr_i64_24, shl_i64_24, shr_i64_40, shl_i64_40]; omega)
    | ((with_reducible refine Arith.u8 ?_ ?_); simp (discharger := omega) only [Int.tdiv_eq_ediv_of_nonneg, shr_u8_4, shl_u8_4, shr_u16_4, shl_u16_4, shr_u16_8, shl_u16_8, shr_u32_4, shl_u32_4, shr_u32_8, shl_u32_8, shr_u32_16, shl_u32_16, shr_u32_24, shl_u32_24, shr_u64_4, shl_u64_4, shr_u64_8, shl_u64_8, shr_u64_16, shl_u64_16, shr_u64_24, shl_u64_24, shr_u64_40, shl_u64_40, shr_i64_4, shl_i64_4, shr_i64_8, shl_i64_8, shr_i64_16, shl_i64_16, shr_i64_24, shl_i64_24, shr_i64_40, shl_i64_40]; omega)
    | (with_reducible refine Arith.mk ?_)
    | (with_reducible refine Ends.mk ?_))
  all_goals first | exact ⟨rfl, rfl⟩ | (exfalso; simp_all; done) | (exfalso; omega)
set_option maxHeartbeats 4000000 in
theorem alive_det (hG : Tabs G) (h7 : 8 ≤ G.n) (htz : G.w0.cell? ⟨7, 15, none⟩ = some (.int .u8 4)) : Det G Tryd.prog 15 [] [] (vB true) [] := by
  have z0 : fr0.size = 60 := by decide +kernel
  have z1 : ((⟨#[97, 98]⟩ : ByteArray) ++ zer 44).size = 46 := by decide +kernel
  have z2 : ((((⟨#[97, 98]⟩ : ByteArray) ++ zer 44).extract (Int.toNat 0) (Int.toNat 2)).toList == (⟨#[97, 98]⟩ : ByteArray).toList) = true := by decide +kernel
  refine can_of_W known mix Tryd.func15 (by kernel_rfl) ok_law07_alive (Nat.le_of_ble_eq_true rfl) ?_
  repeat' ((conv => whnf); first
    | ((with_reducible refine Look.mk ?_); refine ⟨_, rfl, ?_⟩)
    | ((with_reducible refine LookN.zeros ?_))
    | ((with_reducible refine LookN.bytes ?_ ?_); (simp; done))
    | ((with_reducible refine BytesW.bytes ?_))
    | ((with_reducible refine Look.byte ?_ ?_); omega)
    | ((with_reducible refine Look.setb ?_ ?_ ?_); exact bv8_bd _; omega)
    | ((with_reducible refine LookN.setb ?_ ?_ ?_); exact bv8_bd _; omega)
    | ((with_reducible refine LookN.mk ?_); refine ⟨_, rfl, ?_⟩)
    | ((with_reducible refine Need.mk ?_ ?_); first | ((with_reducible refine needB ?_); kernel_rfl) | with_reducible rfl | omega | (with_reducible refine ⟨rfl, ?_⟩; focus omega) | (simp only [ByteArray.size_append, size_lit, List.size_toArray, List.length_cons, List.length_nil, Sp.ofB_size, ByteArray.size_extract, hdr7_size, enc7_size, zer_size, macB_size]; omega) | exact rfl | trivial | exact Nat.le_of_ble_eq_true rfl | (exact ⟨rfl, by omega⟩) | (intro h; first | rfl | cases h) | (simp only [lenS_text, lenS_setN, lenS_zeros]; omega))
    | ((with_reducible refine BytesW.mk ?_); refine ⟨_, rfl, ?_⟩)
    | (with_reducible refine CallW.det (alive_e) ?_)
    | (with_reducible refine CallW.det (alive_d) ?_)
    | (with_reducible refine CallW.det (alive_d2) ?_)
    | (with_reducible refine CallW.det (alive_p1 hG h7 htz) ?_)
    | (with_reducible refine CallW.det (alive_p2 hG h7 htz) ?_)
    | (with_reducible refine CallW.det (alive_t hG h7 htz) ?_)
    | (with_reducible refine CallW.det (for_det _ _ _ _ _) ?_)
    | ((with_reducible refine WrT.same ?_ ?_); focus (repeat (first | exact trivial | ((conv => whnf); refine ⟨rfl, ?_⟩))))
    | (with_reducible refine WrT.all ?_)
    | ((with_reducible refine Test.tmodEqT ?_ ?_ ?_); omega; focus first | omega | assumption)
    | ((with_reducible refine Test.tmodEqF ?_ ?_ ?_); omega; focus first | omega | assumption)
    | ((with_reducible refine Test.tmodNeT ?_ ?_ ?_); omega; focus first | omega | assumption)
    | ((with_reducible refine Test.tmodNeF ?_ ?_ ?_); omega; focus first | omega | assumption)
    | ((with_reducible refine Test.tmodEq ?_ (fun h => ?_) (fun h => ?_)); omega)
    | ((with_reducible refine Test.tmodNe ?_ (fun h => ?_) (fun h => ?_)); omega)
    | ((with_reducible refine Test.notT ?_ ?_); focus assumption)
    | ((with_reducible refine Test.notF ?_ ?_); focus assumption)
    | (with_reducible refine Test.notIe (fun h => ?_) (fun h => ?_))
    | (with_reducible refine Test.notD (fun h => ?_) (fun h => ?_))
    | ((with_reducible refine Test.empty (fun h => ?_) (fun h => ?_)))
    | (with_reducible refine Test.tt ?_)
    | (with_reducible refine Test.ff ?_)
    | ((with_reducible refine Test.dt ?_ ?_); omega)
    | ((with_reducible refine Test.df ?_ ?_); omega)
    | (with_reducible refine Test.d (fun h => ?_) (fun h => ?_))
    | ((with_reducible refine Test.ieT ?_ ?_); omega)
    | ((with_reducible refine Test.ieF ?_ ?_); omega)
    | ((with_reducible refine Test.neT ?_ ?_); omega)
    | ((with_reducible refine Test.neF ?_ ?_); omega)
    | (with_reducible refine Test.ie (fun h => ?_) (fun h => ?_))
    | (with_reducible refine Test.ne (fun h => ?_) (fun h => ?_))
    | ((with_reducible refine Test.b ?_ ?_); (focus first | assumption | (simp [negB]; done) | exact rfl))
    | ((with_reducible refine Test.nb ?_ ?_); (focus first | assumption | (simp [negB]; done) | exact rfl))
    | (with_reducible refine Test.notS (fun h => ?_) (fun h => ?_))
    | (with_reducible refine Test.mk (fun h => ?_) (fun h => ?_))
    | ((with_reducible refine Arith.andu64_1 ?_ ?_); omega)
    | ((with_reducible refine Arith.m48 ?_ ?_); omega)
    | ((with_reducible refine Arith.tdiv ?_ ?_); omega)
    | (with_reducible refine Arith.bv8 ?_)
    | (with_reducible refine Arith.bv16 ?_)
    | (with_reducible refine Arith.bv32 ?_)
    | (with_reducible refine Arith.bv64 ?_)
    | ((with_reducible refine Arith.i64 ?_ ?_); omega)
    | ((with_reducible refine Arith.u64 ?_ ?_); omega)
    | ((with_reducible refine Arith.u32 ?_ ?_); omega)
    | ((with_reducible refine Arith.u16 ?_ ?_); omega)
    | ((with_reducible refine Arith.u8 ?_ ?_); omega)
    | ((with_reducible refine Arith.i32 ?_ ?_); omega)
    | ((with_reducible refine Arith.i64 ?_ ?_); simp (discharger := omega) only [Int.tdiv_eq_ediv_of_nonneg, shr_u8_4, shl_u8_4, shr_u16_4, shl_u16_4, shr_u16_8, shl_u16_8, shr_u32_4, shl_u32_4, shr_u32_8, shl_u32_8, shr_u32_16, shl_u32_16, shr_u32_24, shl_u32_24, shr_u64_4, shl_u64_4, shr_u64_8, shl_u64_8, shr_u64_16, shl_u64_16, shr_u64_24, shl_u64_24, shr_u64_40, shl_u64_40, shr_i64_4, shl_i64_4, shr_i64_8, shl_i64_8, shr_i64_16, shl_i64_16, shr_i64_24, shl_i64_24, shr_i64_40, shl_i64_40]; omega)
    | ((with_reducible refine Arith.u64 ?_ ?_); simp (discharger := omega) only [Int.tdiv_eq_ediv_of_nonneg, shr_u8_4, shl_u8_4, shr_u16_4, shl_u16_4, shr_u16_8, shl_u16_8, shr_u32_4, shl_u32_4, shr_u32_8, shl_u32_8, shr_u32_16, shl_u32_16, shr_u32_24, shl_u32_24, shr_u64_4, shl_u64_4, shr_u64_8, shl_u64_8, shr_u64_16, shl_u64_16, shr_u64_24, shl_u64_24, shr_u64_40, shl_u64_40, shr_i64_4, shl_i64_4, shr_i64_8, shl_i64_8, shr_i64_16, shl_i64_16, shr_i64_24, shl_i64_24, shr_i64_40, shl_i64_40]; omega)
    | ((with_reducible refine Arith.u32 ?_ ?_); simp (discharger := omega) only [Int.tdiv_eq_ediv_of_nonneg, shr_u8_4, shl_u8_4, shr_u16_4, shl_u16_4, shr_u16_8, shl_u16_8, shr_u32_4, shl_u32_4, shr_u32_8, shl_u32_8, shr_u32_16, shl_u32_16, shr_u32_24, shl_u32_24, shr_u64_4, shl_u64_4, shr_u64_8, shl_u64_8, shr_u64_16, shl_u64_16, shr_u64_24, shl_u64_24, shr_u64_40, shl_u64_40, shr_i64_4, shl_i64_4, shr_i64_8, shl_i64_8, shr_i64_16, shl_i64_16, shr_i64_24, shl_i64_24, shr_i64_40, shl_i64_40]; omega)
    | ((with_reducible refine Arith.u16 ?_ ?_); simp (discharger := omega) only [Int.tdiv_eq_ediv_of_nonneg, shr_u8_4, shl_u8_4, shr_u16_4, shl_u16_4, shr_u16_8, shl_u16_8, shr_u32_4, shl_u32_4, shr_u32_8, shl_u32_8, shr_u32_16, shl_u32_16, shr_u32_24, shl_u32_24, shr_u64_4, shl_u64_4, shr_u64_8, shl_u64_8, shr_u64_16, shl_u64_16, shr_u64_24, shl_u64_24, shr_u64_40, shl_u64_40, shr_i64_4, shl_i64_4, shr_i64_8, shl_i64_8, shr_i64_16, shl_i64_16, shr_i64_24, shl_i64_24, shr_i64_40, shl_i64_40]; omega)
    | ((with_reducible refine Arith.u8 ?_ ?_); simp (discharger := omega) only [Int.tdiv_eq_ediv_of_nonneg, shr_u8_4, shl_u8_4, shr_u16_4, shl_u16_4, shr_u16_8, shl_u16_8, shr_u32_4, shl_u32_4, shr_u32_8, shl_u32_8, shr_u32_16, shl_u32_16, shr_u32_24, shl_u32_24, shr_u64_4, shl_u64_4, shr_u64_8, shl_u64_8, shr_u64_16, shl_u64_16, shr_u64_24, shl_u64_24, shr_u64_40, shl_u64_40, shr_i64_4, shl_i64_4, shr_i64_8, shl_i64_8, shr_i64_16, shl_i64_16, shr_i64_24, shl_i64_24, shr_i64_40, shl_i64_40]; omega)
    | (with_reducible refine Arith.mk ?_)
    | (with_reducible refine Ends.mk ?_))
  all_goals first | exact ⟨rfl, rfl⟩ | (exfalso; simp_all; done) | (exfalso; omega)
set_option maxHeartbeats 4000000 in
theorem macs (hG : Tabs G) (h7 : 8 ≤ G.n) (htz : G.w0.cell? ⟨7, 15, none⟩ = some (.int .u8 4)) (m : Int) (hm : 0 ≤ m ∧ m ≤ 18446744073709551615) (s : ByteArray) (t f k : Int) (d : ByteArray) : Det G Tryd.prog 10 [.o (.int .u64 m), .o (.str s), .a [.int .u64 t, .int .u64 f, .int .u16 k, .str d]] [] (vB true) [] := by
  have pb := pvA_bd s
  have pe := peA_or s
  refine can_of_W known mix Tryd.func10 (by kernel_rfl) ok_law07_EtherMacs (Nat.le_of_ble_eq_true rfl) ?_
  repeat' ((conv => whnf); first
    | ((with_reducible refine Look.mk ?_); refine ⟨_, rfl, ?_⟩)
    | ((with_reducible refine LookN.zeros ?_))
    | ((with_reducible refine LookN.bytes ?_ ?_); (simp; done))
    | ((with_reducible refine BytesW.bytes ?_))
    | ((with_reducible refine Look.byte ?_ ?_); omega)
    | ((with_reducible refine Look.setb ?_ ?_ ?_); exact bv8_bd _; omega)
    | ((with_reducible refine LookN.setb ?_ ?_ ?_); exact bv8_bd _; omega)
    | ((with_reducible refine LookN.mk ?_); refine ⟨_, rfl, ?_⟩)
    | ((with_reducible refine Need.mk ?_ ?_); first | ((with_reducible refine needB ?_); kernel_rfl) | with_reducible rfl | omega | (with_reducible refine ⟨rfl, ?_⟩; focus omega) | (simp only [ByteArray.size_append, size_lit, List.size_toArray, List.length_cons, List.length_nil, Sp.ofB_size, ByteArray.size_extract, hdr7_size, enc7_size, zer_size, macB_size]; omega) | exact rfl | trivial | exact Nat.le_of_ble_eq_true rfl | (exact ⟨rfl, by omega⟩) | (intro h; first | rfl | cases h) | (simp only [lenS_text, lenS_setN, lenS_zeros]; omega))
    | ((with_reducible refine BytesW.mk ?_); refine ⟨_, rfl, ?_⟩)
    | (with_reducible refine CallW.det (alive_det hG h7 htz) ?_)
    | (with_reducible refine CallW.det (mtext_det h7 htz _ (by omega)) ?_)
    | (with_reducible refine CallW.det (rmtext_det _ (by omega)) ?_)
    | (with_reducible refine CallW.det (eparse_det hG h7 htz _ (by omega)) ?_)
    | (with_reducible refine CallW.det (rparse_same _ (by omega)) ?_)
    | (with_reducible refine CallW.det (long_det _ _ _ _) ?_)
    | (with_reducible refine CallW.det (for_det _ _ _ _ _) ?_)
    | (with_reducible refine CallW.det (rfor_det _ _ _ _ _) ?_)
    | ((with_reducible refine WrT.same ?_ ?_); focus (repeat (first | exact trivial | ((conv => whnf); refine ⟨rfl, ?_⟩))))
    | (with_reducible refine WrT.all ?_)
    | ((with_reducible refine Test.tmodEqT ?_ ?_ ?_); omega; focus first | omega | assumption)
    | ((with_reducible refine Test.tmodEqF ?_ ?_ ?_); omega; focus first | omega | assumption)
    | ((with_reducible refine Test.tmodNeT ?_ ?_ ?_); omega; focus first | omega | assumption)
    | ((with_reducible refine Test.tmodNeF ?_ ?_ ?_); omega; focus first | omega | assumption)
    | ((with_reducible refine Test.tmodEq ?_ (fun h => ?_) (fun h => ?_)); omega)
    | ((with_reducible refine Test.tmodNe ?_ (fun h => ?_) (fun h => ?_)); omega)
    | ((with_reducible refine Test.notT ?_ ?_); focus assumption)
    | ((with_reducible refine Test.notF ?_ ?_); focus assumption)
    | (with_reducible refine Test.notIe (fun h => ?_) (fun h => ?_))
    | (with_reducible refine Test.notD (fun h => ?_) (fun h => ?_))
    | ((with_reducible refine Test.empty (fun h => ?_) (fun h => ?_)))
    | (with_reducible refine Test.tt ?_)
    | (with_reducible refine Test.ff ?_)
    | ((with_reducible refine Test.dt ?_ ?_); omega)
    | ((with_reducible refine Test.df ?_ ?_); omega)
    | (with_reducible refine Test.d (fun h => ?_) (fun h => ?_))
    | ((with_reducible refine Test.ieT ?_ ?_); omega)
    | ((with_reducible refine Test.ieF ?_ ?_); omega)
    | ((with_reducible refine Test.neT ?_ ?_); omega)
    | ((with_reducible refine Test.neF ?_ ?_); omega)
    | (with_reducible refine Test.ie (fun h => ?_) (fun h => ?_))
    | (with_reducible refine Test.ne (fun h => ?_) (fun h => ?_))
    | ((with_reducible refine Test.b ?_ ?_); (focus first | assumption | (simp [negB]; done) | exact rfl))
    | ((with_reducible refine Test.nb ?_ ?_); (focus first | assumption | (simp [negB]; done) | exact rfl))
    | (with_reducible refine Test.notS (fun h => ?_) (fun h => ?_))
    | (with_reducible refine Test.mk (fun h => ?_) (fun h => ?_))
    | ((with_reducible refine Arith.andu64_1 ?_ ?_); omega)
    | ((with_reducible refine Arith.m48 ?_ ?_); omega)
    | ((with_reducible refine Arith.tdiv ?_ ?_); omega)
    | (with_reducible refine Arith.bv8 ?_)
    | (with_reducible refine Arith.bv16 ?_)
    | (with_reducible refine Arith.bv32 ?_)
    | (with_reducible refine Arith.bv64 ?_)
    | ((with_reducible refine Arith.i64 ?_ ?_); omega)
    | ((with_reducible refine Arith.u64 ?_ ?_); omega)
    | ((with_reducible refine Arith.u32 ?_ ?_); omega)
    | ((with_reducible refine Arith.u16 ?_ ?_); omega)
    | ((with_reducible refine Arith.u8 ?_ ?_); omega)
    | ((with_reducible refine Arith.i32 ?_ ?_); omega)
    | ((with_reducible refine Arith.i64 ?_ ?_); simp (discharger := omega) only [Int.tdiv_eq_ediv_of_nonneg, shr_u8_4, shl_u8_4, shr_u16_4, shl_u16_4, shr_u16_8, shl_u16_8, shr_u32_4, shl_u32_4, shr_u32_8, shl_u32_8, shr_u32_16, shl_u32_16, shr_u32_24, shl_u32_24, shr_u64_4, shl_u64_4, shr_u64_8, shl_u64_8, shr_u64_16, shl_u64_16, shr_u64_24, shl_u64_24, shr_u64_40, shl_u64_40, shr_i64_4, shl_i64_4, shr_i64_8, shl_i64_8, shr_i64_16, shl_i64_16, shr_i64_24, shl_i64_24, shr_i64_40, shl_i64_40]; omega)
    | ((with_reducible refine Arith.u64 ?_ ?_); simp (discharger := omega) only [Int.tdiv_eq_ediv_of_nonneg, shr_u8_4, shl_u8_4, shr_u16_4, shl_u16_4, shr_u16_8, shl_u16_8, shr_u32_4, shl_u32_4, shr_u32_8, shl_u32_8, shr_u32_16, shl_u32_16, shr_u32_24, shl_u32_24, shr_u64_4, shl_u64_4, shr_u64_8, shl_u64_8, shr_u64_16, shl_u64_16, shr_u64_24, shl_u64_24, shr_u64_40, shl_u64_40, shr_i64_4, shl_i64_4, shr_i64_8, shl_i64_8, shr_i64_16, shl_i64_16, shr_i64_24, shl_i64_24, shr_i64_40, shl_i64_40]; omega)
    | ((with_reducible refine Arith.u32 ?_ ?_); simp (discharger := omega) only [Int.tdiv_eq_ediv_of_nonneg, shr_u8_4, shl_u8_4, shr_u16_4, shl_u16_4, shr_u16_8, shl_u16_8, shr_u32_4, shl_u32_4, shr_u32_8, shl_u32_8, shr_u32_16, shl_u32_16, shr_u32_24, shl_u32_24, shr_u64_4, shl_u64_4, shr_u64_8, shl_u64_8, shr_u64_16, shl_u64_16, shr_u64_24, shl_u64_24, shr_u64_40, shl_u64_40, shr_i64_4, shl_i64_4, shr_i64_8, shl_i64_8, shr_i64_16, shl_i64_16, shr_i64_24, shl_i64_24, shr_i64_40, shl_i64_40]; omega)
    | ((with_reducible refine Arith.u16 ?_ ?_); simp (discharger := omega) only [Int.tdiv_eq_ediv_of_nonneg, shr_u8_4, shl_u8_4, shr_u16_4, shl_u16_4, shr_u16_8, shl_u16_8, shr_u32_4, shl_u32_4, shr_u32_8, shl_u32_8, shr_u32_16, shl_u32_16, shr_u32_24, shl_u32_24, shr_u64_4, shl_u64_4, shr_u64_8, shl_u64_8, shr_u64_16, shl_u64_16, shr_u64_24, shl_u64_24, shr_u64_40, shl_u64_40, shr_i64_4, shl_i64_4, shr_i64_8, shl_i64_8, shr_i64_16, shl_i64_16, shr_i64_24, shl_i64_24, shr_i64_40, shl_i64_40]; omega)
    | ((with_reducible refine Arith.u8 ?_ ?_); simp (discharger := omega) only [Int.tdiv_eq_ediv_of_nonneg, shr_u8_4, shl_u8_4, shr_u16_4, shl_u16_4, shr_u16_8, shl_u16_8, shr_u32_4, shl_u32_4, shr_u32_8, shl_u32_8, shr_u32_16, shl_u32_16, shr_u32_24, shl_u32_24, shr_u64_4, shl_u64_4, shr_u64_8, shl_u64_8, shr_u64_16, shl_u64_16, shr_u64_24, shl_u64_24, shr_u64_40, shl_u64_40, shr_i64_4, shl_i64_4, shr_i64_8, shl_i64_8, shr_i64_16, shl_i64_16, shr_i64_24, shl_i64_24, shr_i64_40, shl_i64_40]; omega)
    | (with_reducible refine Arith.mk ?_)
    | (with_reducible refine Ends.mk ?_))
  all_goals first | exact ⟨rfl, rfl⟩ | (exfalso; simp_all; done) | (exfalso; omega)
set_option maxHeartbeats 4000000 in
theorem tells (hG : Tabs G) (h7 : 8 ≤ G.n) (htz : G.w0.cell? ⟨7, 15, none⟩ = some (.int .u8 4)) (t f k : Int) (d : ByteArray) (s : ByteArray) (ht : 0 ≤ t ∧ t ≤ 18446744073709551615) (hf : 0 ≤ f ∧ f ≤ 18446744073709551615) (hk : 0 ≤ k ∧ k ≤ 65535) : Det G Tryd.prog 9 [.a [.int .u64 t, .int .u64 f, .int .u16 k, .str d], .o (.str s)] [] (vB true) [] := by
  refine can_of_W known mix Tryd.func9 (by kernel_rfl) ok_law07_EtherTells (Nat.le_of_ble_eq_true rfl) ?_
  repeat' ((conv => whnf); first
    | ((with_reducible refine Look.mk ?_); refine ⟨_, rfl, ?_⟩)
    | ((with_reducible refine LookN.zeros ?_))
    | ((with_reducible refine LookN.bytes ?_ ?_); (simp; done))
    | ((with_reducible refine BytesW.bytes ?_))
    | ((with_reducible refine Look.byte ?_ ?_); omega)
    | ((with_reducible refine Look.setb ?_ ?_ ?_); exact bv8_bd _; omega)
    | ((with_reducible refine LookN.setb ?_ ?_ ?_); exact bv8_bd _; omega)
    | ((with_reducible refine LookN.mk ?_); refine ⟨_, rfl, ?_⟩)
    | ((with_reducible refine Need.mk ?_ ?_); first | ((with_reducible refine needB ?_); kernel_rfl) | with_reducible rfl | omega | (with_reducible refine ⟨rfl, ?_⟩; focus omega) | (simp only [ByteArray.size_append, size_lit, List.size_toArray, List.length_cons, List.length_nil, Sp.ofB_size, ByteArray.size_extract, hdr7_size, enc7_size, zer_size, macB_size]; omega) | exact rfl | trivial | exact Nat.le_of_ble_eq_true rfl | (exact ⟨rfl, by omega⟩) | (intro h; first | rfl | cases h) | (simp only [lenS_text, lenS_setN, lenS_zeros]; omega))
    | ((with_reducible refine BytesW.mk ?_); refine ⟨_, rfl, ?_⟩)
    | (with_reducible refine CallW.det (alive_det hG h7 htz) ?_)
    | (with_reducible refine CallW.det (enc_det _ _ _ _ (by omega) (by omega) (by omega) (by omega)) ?_)
    | (with_reducible refine CallW.det (renc_det _ _ _ _ (by omega) (by omega) (by omega) (by omega)) ?_)
    | (with_reducible refine CallW.det (dec_det _ (by omega)) ?_)
    | (with_reducible refine CallW.det (rdec_det _ (by omega)) ?_)
    | (with_reducible refine CallW.det (long_det _ _ _ _) ?_)
    | ((with_reducible refine WrT.same ?_ ?_); focus (repeat (first | exact trivial | ((conv => whnf); refine ⟨rfl, ?_⟩))))
    | (with_reducible refine WrT.all ?_)
    | ((with_reducible refine Test.tmodEqT ?_ ?_ ?_); omega; focus first | omega | assumption)
    | ((with_reducible refine Test.tmodEqF ?_ ?_ ?_); omega; focus first | omega | assumption)
    | ((with_reducible refine Test.tmodNeT ?_ ?_ ?_); omega; focus first | omega | assumption)
    | ((with_reducible refine Test.tmodNeF ?_ ?_ ?_); omega; focus first | omega | assumption)
    | ((with_reducible refine Test.tmodEq ?_ (fun h => ?_) (fun h => ?_)); omega)
    | ((with_reducible refine Test.tmodNe ?_ (fun h => ?_) (fun h => ?_)); omega)
    | ((with_reducible refine Test.notT ?_ ?_); focus assumption)
    | ((with_reducible refine Test.notF ?_ ?_); focus assumption)
    | (with_reducible refine Test.notIe (fun h => ?_) (fun h => ?_))
    | (with_reducible refine Test.notD (fun h => ?_) (fun h => ?_))
    | ((with_reducible refine Test.empty (fun h => ?_) (fun h => ?_)))
    | (with_reducible refine Test.tt ?_)
    | (with_reducible refine Test.ff ?_)
    | ((with_reducible refine Test.dt ?_ ?_); omega)
    | ((with_reducible refine Test.df ?_ ?_); omega)
    | (with_reducible refine Test.d (fun h => ?_) (fun h => ?_))
    | ((with_reducible refine Test.ieT ?_ ?_); omega)
    | ((with_reducible refine Test.ieF ?_ ?_); omega)
    | ((with_reducible refine Test.neT ?_ ?_); omega)
    | ((with_reducible refine Test.neF ?_ ?_); omega)
    | (with_reducible refine Test.ie (fun h => ?_) (fun h => ?_))
    | (with_reducible refine Test.ne (fun h => ?_) (fun h => ?_))
    | ((with_reducible refine Test.b ?_ ?_); (focus first | assumption | (simp [negB]; done) | exact rfl))
    | ((with_reducible refine Test.nb ?_ ?_); (focus first | assumption | (simp [negB]; done) | exact rfl))
    | (with_reducible refine Test.notS (fun h => ?_) (fun h => ?_))
    | (with_reducible refine Test.mk (fun h => ?_) (fun h => ?_))
    | ((with_reducible refine Arith.andu64_1 ?_ ?_); omega)
    | ((with_reducible refine Arith.m48 ?_ ?_); omega)
    | ((with_reducible refine Arith.tdiv ?_ ?_); omega)
    | (with_reducible refine Arith.bv8 ?_)
    | (with_reducible refine Arith.bv16 ?_)
    | (with_reducible refine Arith.bv32 ?_)
    | (with_reducible refine Arith.bv64 ?_)
    | ((with_reducible refine Arith.i64 ?_ ?_); omega)
    | ((with_reducible refine Arith.u64 ?_ ?_); omega)
    | ((with_reducible refine Arith.u32 ?_ ?_); omega)
    | ((with_reducible refine Arith.u16 ?_ ?_); omega)
    | ((with_reducible refine Arith.u8 ?_ ?_); omega)
    | ((with_reducible refine Arith.i32 ?_ ?_); omega)
    | ((with_reducible refine Arith.i64 ?_ ?_); simp (discharger := omega) only [Int.tdiv_eq_ediv_of_nonneg, shr_u8_4, shl_u8_4, shr_u16_4, shl_u16_4, shr_u16_8, shl_u16_8, shr_u32_4, shl_u32_4, shr_u32_8, shl_u32_8, shr_u32_16, shl_u32_16, shr_u32_24, shl_u32_24, shr_u64_4, shl_u64_4, shr_u64_8, shl_u64_8, shr_u64_16, shl_u64_16, shr_u64_24, shl_u64_24, shr_u64_40, shl_u64_40, shr_i64_4, shl_i64_4, shr_i64_8, shl_i64_8, shr_i64_16, shl_i64_16, shr_i64_24, shl_i64_24, shr_i64_40, shl_i64_40]; omega)
    | ((with_reducible refine Arith.u64 ?_ ?_); simp (discharger := omega) only [Int.tdiv_eq_ediv_of_nonneg, shr_u8_4, shl_u8_4, shr_u16_4, shl_u16_4, shr_u16_8, shl_u16_8, shr_u32_4, shl_u32_4, shr_u32_8, shl_u32_8, shr_u32_16, shl_u32_16, shr_u32_24, shl_u32_24, shr_u64_4, shl_u64_4, shr_u64_8, shl_u64_8, shr_u64_16, shl_u64_16, shr_u64_24, shl_u64_24, shr_u64_40, shl_u64_40, shr_i64_4, shl_i64_4, shr_i64_8, shl_i64_8, shr_i64_16, shl_i64_16, shr_i64_24, shl_i64_24, shr_i64_40, shl_i64_40]; omega)
    | ((with_reducible refine Arith.u32 ?_ ?_); simp (discharger := omega) only [Int.tdiv_eq_ediv_of_nonneg, shr_u8_4, shl_u8_4, shr_u16_4, shl_u16_4, shr_u16_8, shl_u16_8, shr_u32_4, shl_u32_4, shr_u32_8, shl_u32_8, shr_u32_16, shl_u32_16, shr_u32_24, shl_u32_24, shr_u64_4, shl_u64_4, shr_u64_8, shl_u64_8, shr_u64_16, shl_u64_16, shr_u64_24, shl_u64_24, shr_u64_40, shl_u64_40, shr_i64_4, shl_i64_4, shr_i64_8, shl_i64_8, shr_i64_16, shl_i64_16, shr_i64_24, shl_i64_24, shr_i64_40, shl_i64_40]; omega)
    | ((with_reducible refine Arith.u16 ?_ ?_); simp (discharger := omega) only [Int.tdiv_eq_ediv_of_nonneg, shr_u8_4, shl_u8_4, shr_u16_4, shl_u16_4, shr_u16_8, shl_u16_8, shr_u32_4, shl_u32_4, shr_u32_8, shl_u32_8, shr_u32_16, shl_u32_16, shr_u32_24, shl_u32_24, shr_u64_4, shl_u64_4, shr_u64_8, shl_u64_8, shr_u64_16, shl_u64_16, shr_u64_24, shl_u64_24, shr_u64_40, shl_u64_40, shr_i64_4, shl_i64_4, shr_i64_8, shl_i64_8, shr_i64_16, shl_i64_16, shr_i64_24, shl_i64_24, shr_i64_40, shl_i64_40]; omega)
    | ((with_reducible refine Arith.u8 ?_ ?_); simp (discharger := omega) only [Int.tdiv_eq_ediv_of_nonneg, shr_u8_4, shl_u8_4, shr_u16_4, shl_u16_4, shr_u16_8, shl_u16_8, shr_u32_4, shl_u32_4, shr_u32_8, shl_u32_8, shr_u32_16, shl_u32_16, shr_u32_24, shl_u32_24, shr_u64_4, shl_u64_4, shr_u64_8, shl_u64_8, shr_u64_16, shl_u64_16, shr_u64_24, shl_u64_24, shr_u64_40, shl_u64_40, shr_i64_4, shl_i64_4, shr_i64_8, shl_i64_8, shr_i64_16, shl_i64_16, shr_i64_24, shl_i64_24, shr_i64_40, shl_i64_40]; omega)
    | (with_reducible refine Arith.mk ?_)
    | (with_reducible refine Ends.mk ?_))
  all_goals first | exact ⟨rfl, rfl⟩ | (exfalso; simp_all; done) | (exfalso; omega)
end G4
end Go.Proofs.YtnikpanebkknfaaDoor.VM
