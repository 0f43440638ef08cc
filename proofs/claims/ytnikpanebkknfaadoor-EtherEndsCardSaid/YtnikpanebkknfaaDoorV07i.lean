/- law 07 by the evaluator: frames are read (Decode). -/
import Derived.Test.YtnikpanebkknfaaDoorV07h
namespace Go.Proofs.YtnikpanebkknfaaDoor.VM
namespace G4
open Go.RowKit
set_option linter.unusedVariables false
set_option linter.unusedSimpArgs false
theorem six_of (l : List UInt8) (h : l.length = 6) : ∃ a b c d e f, l = [a, b, c, d, e, f] := by
  match l, h with
  | [a, b, c, d, e, f], _ => exact ⟨a, b, c, d, e, f, rfl⟩
theorem two_of (l : List UInt8) (h : l.length = 2) : ∃ a b, l = [a, b] := by
  match l, h with
  | [a, b], _ => exact ⟨a, b, rfl⟩
theorem ofL6 (x : Int) : Sp.ofL x 6 = [UInt8.ofNat (x / 1099511627776 % 256).toNat, UInt8.ofNat (x / 4294967296 % 256).toNat, UInt8.ofNat (x / 16777216 % 256).toNat, UInt8.ofNat (x / 65536 % 256).toNat, UInt8.ofNat (x / 256 % 256).toNat, UInt8.ofNat (x / 1 % 256).toNat] := by
  rw [Sp.ofL_succ, Sp.ofL_succ, Sp.ofL_succ, Sp.ofL_succ, Sp.ofL_succ, Sp.ofL_succ]; rfl
theorem ofL2 (x : Int) : Sp.ofL x 2 = [UInt8.ofNat (x / 256 % 256).toNat, UInt8.ofNat (x / 1 % 256).toNat] := by
  rw [Sp.ofL_succ, Sp.ofL_succ]; rfl
theorem u8_back (c : UInt8) (x : Int) (h : x = c.toNat) : UInt8.ofNat x.toNat = c := by
  subst h; simp
theorem u8_toNat (x : Int) : ((UInt8.ofNat (x % 256).toNat).toNat : Int) = x % 256 := by
  rw [UInt8.toNat_ofNat_of_lt' (by show (x % 256).toNat < 256; omega)]; omega
theorem ofL_be6 (l : List UInt8) (h : l.length = 6) : Sp.ofL (Sp.be l) 6 = l := by
  obtain ⟨a, b, c, d, e, f, rfl⟩ := six_of l h
  have ha := a.toNat_lt; have hb := b.toNat_lt; have hc := c.toNat_lt; have hd := d.toNat_lt; have he := e.toNat_lt; have hf := f.toNat_lt
  have hv : Sp.be [a, b, c, d, e, f] = ((((a.toNat * 256 + b.toNat) * 256 + c.toNat) * 256 + d.toNat) * 256 + e.toNat) * 256 + f.toNat := by simp [Sp.be]
  rw [ofL6, hv, u8_back a _ (by omega), u8_back b _ (by omega), u8_back c _ (by omega), u8_back d _ (by omega), u8_back e _ (by omega), u8_back f _ (by omega)]
theorem ofL_be2 (l : List UInt8) (h : l.length = 2) : Sp.ofL (Sp.be l) 2 = l := by
  obtain ⟨a, b, rfl⟩ := two_of l h
  have ha := a.toNat_lt; have hb := b.toNat_lt
  have hv : Sp.be [a, b] = a.toNat * 256 + b.toNat := by simp [Sp.be]
  rw [ofL2, hv, u8_back a _ (by omega), u8_back b _ (by omega)]
theorem be_ofL6 (x : Int) (h : 0 ≤ x ∧ x ≤ 281474976710655) : (Sp.be (Sp.ofL x 6) : Int) = x := by
  rw [ofL6]
  have h0 := u8_toNat (x / 1099511627776); have h1 := u8_toNat (x / 4294967296); have h2 := u8_toNat (x / 16777216); have h3 := u8_toNat (x / 65536); have h4 := u8_toNat (x / 256); have h5 := u8_toNat (x / 1)
  simp only [Sp.be, List.foldl]
  omega
theorem be_ofL2 (x : Int) (h : 0 ≤ x ∧ x ≤ 65535) : (Sp.be (Sp.ofL x 2) : Int) = x := by
  rw [ofL2]
  have h4 := u8_toNat (x / 256); have h5 := u8_toNat (x / 1)
  simp only [Sp.be, List.foldl]
  omega
theorem ofB_list (x : Int) (n : Nat) : (Sp.ofB x n).data.toList = Sp.ofL x n := rfl
theorem list_bytes {a b : ByteArray} (h : a.data.toList = b.data.toList) : a = b := ByteArray.ext (Array.toList_inj.1 h)
/-- What was read is written as it was. -/
theorem hdr_back (s : ByteArray) (h : 14 ≤ s.size) : hdr7 (nAt s 0 6) (nAt s 6 6) (nAt s 12 2) (s.extract 14 s.size) = s := by
  apply list_bytes
  have hl := Sp.size_toList s
  unfold hdr7 nAt
  simp only [Sp.append_toList, ofB_list, Sp.extract_toList]
  rw [ofL_be6 _ (by simp; omega), ofL_be6 _ (by simp; omega), ofL_be2 _ (by simp; omega)]
  rw [← hl, List.take_length, List.drop_zero]
  generalize s.data.toList = l at *
  have e1 : l.take 6 ++ (l.drop 6).take 6 = l.take 12 := by rw [← List.take_add]
  have e2 : l.take 12 ++ (l.drop 12).take 2 = l.take 14 := by rw [← List.take_add]
  rw [e1, e2, List.take_append_drop]
/-- What was written is read. -/
theorem hdr_list (t f k : Int) (d : ByteArray) : (hdr7 t f k d).data.toList = Sp.ofL t 6 ++ (Sp.ofL f 6 ++ (Sp.ofL k 2 ++ d.data.toList)) := by
  unfold hdr7; simp only [Sp.append_toList, ofB_list, List.append_assoc]
theorem hdr_read (t f k : Int) (d : ByteArray) (ht : 0 ≤ t ∧ t ≤ 281474976710655) (hf : 0 ≤ f ∧ f ≤ 281474976710655) (hk : 0 ≤ k ∧ k ≤ 65535) :
    nAt (hdr7 t f k d) 0 6 = t ∧ nAt (hdr7 t f k d) 6 6 = f ∧ nAt (hdr7 t f k d) 12 2 = k ∧ (hdr7 t f k d).extract 14 (hdr7 t f k d).size = d := by
  refine ⟨?_, ?_, ?_, ?_⟩
  · unfold nAt
    rw [hdr_list, List.drop_zero, List.take_append_of_le_length (by rw [Sp.ofL_length]; omega), List.take_of_length_le (by rw [Sp.ofL_length]; omega)]
    exact be_ofL6 t ht
  · unfold nAt
    rw [hdr_list, List.drop_append_of_le_length (by rw [Sp.ofL_length]; omega), List.drop_of_length_le (by rw [Sp.ofL_length]; omega), List.nil_append, List.take_append_of_le_length (by rw [Sp.ofL_length]; omega), List.take_of_length_le (by rw [Sp.ofL_length]; omega)]
    exact be_ofL6 f hf
  · unfold nAt
    rw [hdr_list, ← List.append_assoc, List.drop_append_of_le_length (by rw [List.length_append, Sp.ofL_length, Sp.ofL_length]; omega), List.drop_of_length_le (by rw [List.length_append, Sp.ofL_length, Sp.ofL_length]; omega), List.nil_append, List.take_append_of_le_length (by rw [Sp.ofL_length]; omega), List.take_of_length_le (by rw [Sp.ofL_length]; omega)]
    exact be_ofL2 k hk
  · apply list_bytes
    rw [Sp.extract_toList, ← Sp.size_toList, List.take_length, hdr_list, ← List.append_assoc, ← List.append_assoc, List.drop_append_of_le_length (by simp only [List.length_append, Sp.ofL_length]; omega), List.drop_of_length_le (by simp only [List.length_append, Sp.ofL_length]; omega), List.nil_append]
theorem enc_hdr (t f k : Int) (d : ByteArray) : enc7 t f k d = hdr7 t f k (d ++ zer (60 - (hdr7 t f k d).size)) := by
  apply list_bytes
  unfold enc7
  rw [Sp.append_toList, hdr_list, hdr_list, Sp.append_toList]
  simp only [List.append_assoc]
theorem enc7_size (t f k : Int) (d : ByteArray) : (enc7 t f k d).size = max 60 (14 + d.size) := by
  unfold enc7; rw [ByteArray.size_append, zer_size, hdr7_size]; omega
end G4
end Go.Proofs.YtnikpanebkknfaaDoor.VM

namespace Go.Proofs.YtnikpanebkknfaaDoor.VM
namespace G4
open Go.RowKit
set_option linter.unusedVariables false
set_option linter.unusedSimpArgs false
set_option maxRecDepth 100000
variable {G : Ground}
def vf_ether_Decode : VFn := ⟨(.seq (.reg [
    ⟨(some 1), .box (.t 0), none, 0⟩,
    ⟨(some 2), .new [.int .u64 0, .int .u64 0, .int .u16 0, .str ⟨#[]⟩], none, 1⟩,
    ⟨(some 3), .mv (.c (.p (.o (.int .i64 0)))), none, 2⟩] 2 none) (.seq (.block 0 (.seq (.reg [
    ⟨(some 7), .ld none (.t 1), none, 0⟩,
    ⟨(some 8), .len false (.t 7), none, 0⟩,
    ⟨(some 9), .bin .lss (.t 8) (.c (.p (.o (.int .i64 60)))), none, 0⟩,
    ⟨(some 6), .mv (.t 9), none, 0⟩] 0 none) (.cond (.t 6) (.seq (.reg [
    ⟨(some 10), .bld [.int .u64 0, .int .u64 0, .int .u16 0, .str ⟨#[]⟩] [], none, 0⟩,
    ⟨none, .st 4 (.t 2) (.t 10), none, 0⟩,
    ⟨(some 3), .mv (.c (.p (.o (.int .i64 10)))), none, 0⟩] 0 none) .ret) (.seq (.reg [
    ⟨(some 12), .ld none (.t 1), none, 0⟩,
    ⟨(some 13), .len false (.t 12), none, 0⟩,
    ⟨(some 14), .bin .gtr (.t 13) (.c (.p (.o (.int .i64 65549)))), none, 0⟩,
    ⟨(some 11), .mv (.t 14), none, 0⟩] 0 none) (.cond (.t 11) (.seq (.reg [
    ⟨(some 15), .bld [.int .u64 0, .int .u64 0, .int .u16 0, .str ⟨#[]⟩] [], none, 0⟩,
    ⟨none, .st 4 (.t 2) (.t 15), none, 0⟩,
    ⟨(some 3), .mv (.c (.p (.o (.int .i64 4)))), none, 0⟩] 0 none) .ret) .skip))))) (.seq (.reg [
    ⟨(some 16), .mkf 45 [(.t 1)], none, 0⟩,
    ⟨(some 4), .mv (.t 16), none, 0⟩] 0 none) (.seq (.reg [
    ⟨(some 17), .mv (.t 4), none, 0⟩,
    ⟨(some 18), .callv (.t 17) [(.c (.p (.o (.int .i64 0))))] 2, none, 0⟩,
    ⟨(some 19), .mv (.t 4), none, 2⟩,
    ⟨(some 20), .callv (.t 19) [(.c (.p (.o (.int .i64 6))))] 2, none, 2⟩,
    ⟨(some 21), .ld none (.t 1), none, 4⟩,
    ⟨(some 22), .sls (.t 21) (some (.c (.p (.o (.int .i64 14))))) none, none, 4⟩,
    ⟨(some 23), .bld [.int .u64 0, .int .u64 0, .int .u16 0, .str ⟨#[]⟩] [(0, 1, (.t 18)), (1, 1, (.t 20)), (3, 1, (.t 22))], none, 4⟩,
    ⟨(some 5), .new [.int .u64 0, .int .u64 0, .int .u16 0, .str ⟨#[]⟩], none, 4⟩,
    ⟨none, .st 4 (.t 5) (.t 23), none, 5⟩] 5 (some [(0, 2), (1, 2), (0, 4), (1, 4), (2, 4), (3, 4), (0, 5), (1, 5), (2, 5), (3, 5), (0, 7), (1, 7), (2, 7), (3, 7), (4, 7), (5, 7), (6, 7)])) (.seq (.reg [
    ⟨(some 25), .ld none (.t 1), none, 0⟩,
    ⟨(some 26), .call 47 [(.t 25), (.c (.p (.o (.int .i64 12))))] 0, none, 0⟩,
    ⟨(some 24), .mv (.t 26), none, 0⟩,
    ⟨(some 27), .ext 0 (.t 24), none, 0⟩,
    ⟨(some 28), .ext 1 (.t 24), none, 0⟩,
    ⟨(some 29), .fad 2 (.t 5), none, 0⟩,
    ⟨none, .st 1 (.t 29) (.t 27), none, 0⟩] 0 none) (.seq (.seq (.reg [
    ⟨(some 30), .fad 1 (.t 5), none, 0⟩,
    ⟨(some 31), .ld none (.t 30), none, 0⟩,
    ⟨(some 32), .call 42 [(.t 31)] 0, none, 0⟩] 0 none) (.cond (.t 32) (.seq (.reg [
    ⟨(some 33), .bld [.int .u64 0, .int .u64 0, .int .u16 0, .str ⟨#[]⟩] [], none, 0⟩,
    ⟨none, .st 4 (.t 2) (.t 33), none, 0⟩,
    ⟨(some 3), .mv (.c (.p (.o (.int .i64 8)))), none, 0⟩] 0 none) .ret) .skip)) (.seq (.reg [
    ⟨(some 34), .ld (some 4) (.t 5), none, 0⟩,
    ⟨none, .st 4 (.t 2) (.t 34), none, 0⟩,
    ⟨(some 3), .mv (.c (.p (.o (.int .i64 0)))), none, 0⟩] 0 none) .ret))))))),
  [.cell 2 (some 4), .tmp 3], 35, [0, 1, 2, 3, 4, 5]⟩
theorem ok_ether_Decode : cFn Tryd.prog eqsT newsT vf_ether_Decode.keep Tryd.f14 = some vf_ether_Decode := by kernel_rfl
def vf_ether_Decode_1 : VFn := ⟨(.seq (.reg [
    ⟨(some 3), .mv (.c (.p (.o (.int .u64 0)))), none, 0⟩] 0 none) (.seq (.reg [
    ⟨(some 7), .ld none (.t 1), none, 0⟩,
    ⟨(some 8), .mv (.t 0), none, 0⟩,
    ⟨(some 9), .call 46 [(.t 7), (.t 8)] 0, none, 0⟩,
    ⟨(some 6), .mv (.t 9), none, 0⟩,
    ⟨(some 10), .ext 0 (.t 6), none, 0⟩,
    ⟨(some 11), .ext 1 (.t 6), none, 0⟩,
    ⟨(some 4), .mv (.t 10), none, 0⟩,
    ⟨(some 5), .mv (.t 11), none, 0⟩] 0 none) (.seq (.reg [
    ⟨(some 12), .mv (.t 4), none, 0⟩,
    ⟨(some 3), .mv (.t 12), none, 0⟩] 0 none) .ret))),
  [.tmp 3], 13, [0, 1, 3, 4]⟩
theorem ok_ether_Decode_1 : cFn Tryd.prog eqsT newsT vf_ether_Decode_1.keep Tryd.f45 = some vf_ether_Decode_1 := by kernel_rfl
def vf_ref07_Decode : VFn := ⟨(.seq (.reg [
    ⟨(some 2), .new [.int .u64 0, .int .u64 0, .int .u16 0, .str ⟨#[]⟩], none, 0⟩,
    ⟨(some 3), .mv (.c (.p (.o (.int .i64 0)))), none, 1⟩] 1 none) (.seq (.seq (.reg [
    ⟨(some 10), .mv (.t 0), none, 0⟩,
    ⟨(some 11), .len false (.t 10), none, 0⟩,
    ⟨(some 12), .bin .lss (.t 11) (.c (.p (.o (.int .i64 60)))), none, 0⟩] 0 none) (.cond (.t 12) (.seq (.reg [
    ⟨(some 13), .bld [.int .u64 0, .int .u64 0, .int .u16 0, .str ⟨#[]⟩] [], none, 0⟩,
    ⟨none, .st 4 (.t 2) (.t 13), none, 0⟩,
    ⟨(some 3), .mv (.c (.p (.o (.int .i64 10)))), none, 0⟩] 0 none) .ret) .skip)) (.seq (.seq (.reg [
    ⟨(some 14), .mv (.t 0), none, 0⟩,
    ⟨(some 15), .len false (.t 14), none, 0⟩,
    ⟨(some 16), .bin .gtr (.t 15) (.c (.p (.o (.int .i64 65549)))), none, 0⟩] 0 none) (.cond (.t 16) (.seq (.reg [
    ⟨(some 17), .bld [.int .u64 0, .int .u64 0, .int .u16 0, .str ⟨#[]⟩] [], none, 0⟩,
    ⟨none, .st 4 (.t 2) (.t 17), none, 0⟩,
    ⟨(some 3), .mv (.c (.p (.o (.int .i64 4)))), none, 0⟩] 0 none) .ret) .skip)) (.seq (.reg [
    ⟨(some 19), .mv (.t 0), none, 0⟩,
    ⟨(some 20), .call 62 [(.t 19), (.c (.p (.o (.int .i64 0)))), (.c (.p (.o (.int .i64 6))))] 0, none, 0⟩,
    ⟨(some 18), .mv (.t 20), none, 0⟩,
    ⟨(some 21), .ext 0 (.t 18), none, 0⟩,
    ⟨(some 22), .ext 1 (.t 18), none, 0⟩,
    ⟨(some 4), .mv (.t 21), none, 0⟩,
    ⟨(some 5), .mv (.t 22), none, 0⟩] 0 none) (.seq (.reg [
    ⟨(some 24), .mv (.t 0), none, 0⟩,
    ⟨(some 25), .call 62 [(.t 24), (.c (.p (.o (.int .i64 6)))), (.c (.p (.o (.int .i64 6))))] 0, none, 0⟩,
    ⟨(some 23), .mv (.t 25), none, 0⟩,
    ⟨(some 26), .ext 0 (.t 23), none, 0⟩,
    ⟨(some 27), .ext 1 (.t 23), none, 0⟩,
    ⟨(some 6), .mv (.t 26), none, 0⟩,
    ⟨(some 7), .mv (.t 27), none, 0⟩] 0 none) (.seq (.reg [
    ⟨(some 29), .mv (.t 0), none, 0⟩,
    ⟨(some 30), .call 62 [(.t 29), (.c (.p (.o (.int .i64 12)))), (.c (.p (.o (.int .i64 2))))] 0, none, 0⟩,
    ⟨(some 28), .mv (.t 30), none, 0⟩,
    ⟨(some 31), .ext 0 (.t 28), none, 0⟩,
    ⟨(some 32), .ext 1 (.t 28), none, 0⟩,
    ⟨(some 8), .mv (.t 31), none, 0⟩,
    ⟨(some 9), .mv (.t 32), none, 0⟩] 0 none) (.seq (.seq (.reg [
    ⟨(some 33), .mv (.t 6), none, 0⟩,
    ⟨(some 34), .call 61 [(.t 33)] 0, none, 0⟩] 0 none) (.cond (.t 34) (.seq (.reg [
    ⟨(some 35), .bld [.int .u64 0, .int .u64 0, .int .u16 0, .str ⟨#[]⟩] [], none, 0⟩,
    ⟨none, .st 4 (.t 2) (.t 35), none, 0⟩,
    ⟨(some 3), .mv (.c (.p (.o (.int .i64 8)))), none, 0⟩] 0 none) .ret) .skip)) (.seq (.reg [
    ⟨(some 36), .mv (.t 4), none, 0⟩,
    ⟨(some 37), .mv (.t 6), none, 0⟩,
    ⟨(some 38), .mv (.t 8), none, 0⟩,
    ⟨(some 39), .cvi .u16 (.t 38), none, 0⟩,
    ⟨(some 40), .mv (.t 0), none, 0⟩,
    ⟨(some 41), .sls (.t 40) (some (.c (.p (.o (.int .i64 14))))) none, none, 0⟩,
    ⟨(some 42), .bld [.int .u64 0, .int .u64 0, .int .u16 0, .str ⟨#[]⟩] [(0, 1, (.t 36)), (1, 1, (.t 37)), (2, 1, (.t 39)), (3, 1, (.t 41))], none, 0⟩,
    ⟨none, .st 4 (.t 2) (.t 42), none, 0⟩,
    ⟨(some 3), .mv (.c (.p (.o (.int .i64 0)))), none, 0⟩] 0 none) .ret)))))))),
  [.cell 2 (some 4), .tmp 3], 43, [0, 2, 3, 4, 6, 8]⟩
theorem ok_ref07_Decode : cFn Tryd.prog eqsT newsT vf_ref07_Decode.keep Tryd.f35 = some vf_ref07_Decode := by kernel_rfl
/-- What a frame's bytes are read as. -/
def decE (s : ByteArray) : Int := if s.size < 60 then 10 else if s.size > 65549 then 4 else if grp (nAt s 6 6) = true then 8 else 0
def dT (s : ByteArray) : Int := if decE s = 0 then nAt s 0 6 else 0
def dF (s : ByteArray) : Int := if decE s = 0 then nAt s 6 6 else 0
def dK (s : ByteArray) : Int := if decE s = 0 then nAt s 12 2 else 0
def dD (s : ByteArray) : ByteArray := if decE s = 0 then s.extract 14 s.size else ⟨#[]⟩
theorem dec_no {s : ByteArray} {e : Int} (h : decE s = e) (he : e ≠ 0) : V.t [.a [.int .u64 0, .int .u64 0, .int .u16 0, .str ⟨#[]⟩], .o (.int .i64 e)] = .t [.a [.int .u64 (dT s), .int .u64 (dF s), .int .u16 (dK s), .str (dD s)], .o (.int .i64 (decE s))] := by
  unfold dT dF dK dD; rw [h, if_neg he, if_neg he, if_neg he, if_neg he]
theorem dec_yes {s : ByteArray} (h : decE s = 0) : V.t [.a [.int .u64 (nAt s 0 6), .int .u64 (nAt s 6 6), .int .u16 (nAt s 12 2), .str (s.extract 14 s.size)], .o (.int .i64 0)] = .t [.a [.int .u64 (dT s), .int .u64 (dF s), .int .u16 (dK s), .str (dD s)], .o (.int .i64 (decE s))] := by
  unfold dT dF dK dD; rw [h, if_pos rfl, if_pos rfl, if_pos rfl, if_pos rfl]
theorem decE_bd (s : ByteArray) : 0 ≤ decE s ∧ decE s ≤ 10 := by unfold decE; repeat' split <;> omega

set_option maxHeartbeats 1000000 in
theorem mac0_det (s : ByteArray) (h : 6 ≤ s.size) (hs : s.size ≤ 1000000) : Det G Tryd.prog 45 [.o (.int .i64 0), .o (.ptr 0 0)] [.row true false [.str s]] (vI .u64 (nAt s 0 6)) [.row true false [.str s]] := by
  refine can_of_W known mix Tryd.func45 (by kernel_rfl) ok_ether_Decode_1 (Nat.le_of_ble_eq_true rfl) ?_
  repeat' ((conv => whnf); first
    | ((with_reducible refine Look.mk ?_); refine ⟨_, rfl, ?_⟩)
    | ((with_reducible refine LookN.zeros ?_))
    | ((with_reducible refine LookN.bytes ?_ ?_); (simp; done))
    | ((with_reducible refine BytesW.bytes ?_))
    | ((with_reducible refine Look.byte ?_ ?_); omega)
    | ((with_reducible refine Look.setb ?_ ?_ ?_); exact bv8_bd _; omega)
    | ((with_reducible refine LookN.setb ?_ ?_ ?_); exact bv8_bd _; omega)
    | ((with_reducible refine LookN.mk ?_); refine ⟨_, rfl, ?_⟩)
    | ((with_reducible refine Need.mk ?_ ?_); first | ((with_reducible refine needB ?_); kernel_rfl) | with_reducible rfl | omega | (with_reducible refine ⟨rfl, ?_⟩; focus omega) | (simp only [ByteArray.size_append, size_lit, List.size_toArray, List.length_cons, List.length_nil, Sp.ofB_size, ByteArray.size_extract, hdr7_size, enc7_size, zer_size]; omega) | exact rfl | trivial | exact Nat.le_of_ble_eq_true rfl | (exact ⟨rfl, by omega⟩) | (intro h; first | rfl | cases h) | (simp only [lenS_text, lenS_setN, lenS_zeros]; omega))
    | ((with_reducible refine BytesW.mk ?_); refine ⟨_, rfl, ?_⟩)
    | (with_reducible refine CallW.det (wordSix s 0 (by omega) (by omega)) ?_)
    | ((with_reducible refine WrT.same ?_ ?_); focus (repeat (first | exact trivial | ((conv => whnf); refine ⟨rfl, ?_⟩))))
    | (with_reducible refine WrT.all ?_)
    | ((with_reducible refine Test.tmodEqT ?_ ?_ ?_); omega; focus first | omega | assumption)
    | ((with_reducible refine Test.tmodEqF ?_ ?_ ?_); omega; focus first | omega | assumption)
    | ((with_reducible refine Test.tmodNeT ?_ ?_ ?_); omega; focus first | omega | assumption)
    | ((with_reducible refine Test.tmodNeF ?_ ?_ ?_); omega; focus first | omega | assumption)
    | ((with_reducible refine Test.tmodEq ?_ (fun h => ?_) (fun h => ?_)); omega)
    | ((with_reducible refine Test.tmodNe ?_ (fun h => ?_) (fun h => ?_)); omega)
    | ((with_reducible refine Test.notT ?_ ?_); focus assumption)
    | ((with_reducible refine Test.notF ?_ ?_); focus assumption)
    | (with_reducible refine Test.notIe (fun h => ?_) (fun h => ?_))
    | (with_reducible refine Test.notD (fun h => ?_) (fun h => ?_))
    | ((with_reducible refine Test.empty (fun h => ?_) (fun h => ?_)))
    | (with_reducible refine Test.tt ?_)
    | (with_reducible refine Test.ff ?_)
    | ((with_reducible refine Test.dt ?_ ?_); omega)
    | ((with_reducible refine Test.df ?_ ?_); omega)
    | (with_reducible refine Test.d (fun h => ?_) (fun h => ?_))
    | ((with_reducible refine Test.ieT ?_ ?_); omega)
    | ((with_reducible refine Test.ieF ?_ ?_); omega)
    | ((with_reducible refine Test.neT ?_ ?_); omega)
    | ((with_reducible refine Test.neF ?_ ?_); omega)
    | (with_reducible refine Test.ie (fun h => ?_) (fun h => ?_))
    | (with_reducible refine Test.ne (fun h => ?_) (fun h => ?_))
    | ((with_reducible refine Test.b ?_ ?_); (focus first | assumption | (simp [negB]; done) | exact rfl))
    | ((with_reducible refine Test.nb ?_ ?_); (focus first | assumption | (simp [negB]; done) | exact rfl))
    | (with_reducible refine Test.notS (fun h => ?_) (fun h => ?_))
    | (with_reducible refine Test.mk (fun h => ?_) (fun h => ?_))
    | ((with_reducible refine Arith.andu64_1 ?_ ?_); omega)
    | ((with_reducible refine Arith.tdiv ?_ ?_); omega)
    | (with_reducible refine Arith.bv8 ?_)
    | (with_reducible refine Arith.bv16 ?_)
    | (with_reducible refine Arith.bv32 ?_)
    | (with_reducible refine Arith.bv64 ?_)
    | ((with_reducible refine Arith.i64 ?_ ?_); omega)
    | ((with_reducible refine Arith.u64 ?_ ?_); omega)
    | ((with_reducible refine Arith.u32 ?_ ?_); omega)
    | ((with_reducible refine Arith.u16 ?_ ?_); omega)
    | ((with_reducible refine Arith.u8 ?_ ?_); omega)
    | ((with_reducible refine Arith.i32 ?_ ?_); omega)
    | ((with_reducible refine Arith.i64 ?_ ?_); simp (discharger := omega) only [Int.tdiv_eq_ediv_of_nonneg, shr_u8_4, shl_u8_4, shr_u16_4, shl_u16_4, shr_u16_8, shl_u16_8, shr_u32_4, shl_u32_4, shr_u32_8, shl_u32_8, shr_u32_16, shl_u32_16, shr_u32_24, shl_u32_24, shr_u64_4, shl_u64_4, shr_u64_8, shl_u64_8, shr_u64_16, shl_u64_16, shr_u64_24, shl_u64_24, shr_u64_40, shl_u64_40, shr_i64_4, shl_i64_4, shr_i64_8, shl_i64_8, shr_i64_16, shl_i64_16, shr_i64_24, shl_i64_24, shr_i64_40, shl_i64_40]; omega)
    | ((with_reducible refine Arith.u64 ?_ ?_); simp (discharger := omega) only [Int.tdiv_eq_ediv_of_nonneg, shr_u8_4, shl_u8_4, shr_u16_4, shl_u16_4, shr_u16_8, shl_u16_8, shr_u32_4, shl_u32_4, shr_u32_8, shl_u32_8, shr_u32_16, shl_u32_16, shr_u32_24, shl_u32_24, shr_u64_4, shl_u64_4, shr_u64_8, shl_u64_8, shr_u64_16, shl_u64_16, shr_u64_24, shl_u64_24, shr_u64_40, shl_u64_40, shr_i64_4, shl_i64_4, shr_i64_8, shl_i64_8, shr_i64_16, shl_i64_16, shr_i64_24, shl_i64_24, shr_i64_40, shl_i64_40]; omega)
    | ((with_reducible refine Arith.u32 ?_ ?_); simp (discharger := omega) only [Int.tdiv_eq_ediv_of_nonneg, shr_u8_4, shl_u8_4, shr_u16_4, shl_u16_4, shr_u16_8, shl_u16_8, shr_u32_4, shl_u32_4, shr_u32_8, shl_u32_8, shr_u32_16, shl_u32_16, shr_u32_24, shl_u32_24, shr_u64_4, shl_u64_4, shr_u64_8, shl_u64_8, shr_u64_16, shl_u64_16, shr_u64_24, shl_u64_24, shr_u64_40, shl_u64_40, shr_i64_4, shl_i64_4, shr_i64_8, shl_i64_8, shr_i64_16, shl_i64_16, shr_i64_24, shl_i64_24, shr_i64_40, shl_i64_40]; omega)
    | ((with_reducible refine Arith.u16 ?_ ?_); simp (discharger := omega) only [Int.tdiv_eq_ediv_of_nonneg, shr_u8_4, shl_u8_4, shr_u16_4, shl_u16_4, shr_u16_8, shl_u16_8, shr_u32_4, shl_u32_4, shr_u32_8, shl_u32_8, shr_u32_16, shl_u32_16, shr_u32_24, shl_u32_24, shr_u64_4, shl_u64_4, shr_u64_8, shl_u64_8, shr_u64_16, shl_u64_16, shr_u64_24, shl_u64_24, shr_u64_40, shl_u64_40, shr_i64_4, shl_i64_4, shr_i64_8, shl_i64_8, shr_i64_16, shl_i64_16, shr_i64_24, shl_i64_24, shr_i64_40, shl_i64_40]; omega)
    | ((with_reducible refine Arith.u8 ?_ ?_); simp (discharger := omega) only [Int.tdiv_eq_ediv_of_nonneg, shr_u8_4, shl_u8_4, shr_u16_4, shl_u16_4, shr_u16_8, shl_u16_8, shr_u32_4, shl_u32_4, shr_u32_8, shl_u32_8, shr_u32_16, shl_u32_16, shr_u32_24, shl_u32_24, shr_u64_4, shl_u64_4, shr_u64_8, shl_u64_8, shr_u64_16, shl_u64_16, shr_u64_24, shl_u64_24, shr_u64_40, shl_u64_40, shr_i64_4, shl_i64_4, shr_i64_8, shl_i64_8, shr_i64_16, shl_i64_16, shr_i64_24, shl_i64_24, shr_i64_40, shl_i64_40]; omega)
    | (with_reducible refine Arith.mk ?_)
    | (with_reducible refine Ends.mk ?_))
  all_goals first | exact ⟨rfl, rfl⟩ | (exfalso; simp_all; done) | (exfalso; omega)
set_option maxHeartbeats 1000000 in
theorem mac6_det (s : ByteArray) (h : 12 ≤ s.size) (hs : s.size ≤ 1000000) : Det G Tryd.prog 45 [.o (.int .i64 6), .o (.ptr 0 0)] [.row true false [.str s]] (vI .u64 (nAt s 6 6)) [.row true false [.str s]] := by
  refine can_of_W known mix Tryd.func45 (by kernel_rfl) ok_ether_Decode_1 (Nat.le_of_ble_eq_true rfl) ?_
  repeat' ((conv => whnf); first
    | ((with_reducible refine Look.mk ?_); refine ⟨_, rfl, ?_⟩)
    | ((with_reducible refine LookN.zeros ?_))
    | ((with_reducible refine LookN.bytes ?_ ?_); (simp; done))
    | ((with_reducible refine BytesW.bytes ?_))
    | ((with_reducible refine Look.byte ?_ ?_); omega)
    | ((with_reducible refine Look.setb ?_ ?_ ?_); exact bv8_bd _; omega)
    | ((with_reducible refine LookN.setb ?_ ?_ ?_); exact bv8_bd _; omega)
    | ((with_reducible refine LookN.mk ?_); refine ⟨_, rfl, ?_⟩)
    | ((with_reducible refine Need.mk ?_ ?_); first | ((with_reducible refine needB ?_); kernel_rfl) | with_reducible rfl | omega | (with_reducible refine ⟨rfl, ?_⟩; focus omega) | (simp only [ByteArray.size_append, size_lit, List.size_toArray, List.length_cons, List.length_nil, Sp.ofB_size, ByteArray.size_extract, hdr7_size, enc7_size, zer_size]; omega) | exact rfl | trivial | exact Nat.le_of_ble_eq_true rfl | (exact ⟨rfl, by omega⟩) | (intro h; first | rfl | cases h) | (simp only [lenS_text, lenS_setN, lenS_zeros]; omega))
    | ((with_reducible refine BytesW.mk ?_); refine ⟨_, rfl, ?_⟩)
    | (with_reducible refine CallW.det (wordSix s 6 (by omega) (by omega)) ?_)
    | ((with_reducible refine WrT.same ?_ ?_); focus (repeat (first | exact trivial | ((conv => whnf); refine ⟨rfl, ?_⟩))))
    | (with_reducible refine WrT.all ?_)
    | ((with_reducible refine Test.tmodEqT ?_ ?_ ?_); omega; focus first | omega | assumption)
    | ((with_reducible refine Test.tmodEqF ?_ ?_ ?_); omega; focus first | omega | assumption)
    | ((with_reducible refine Test.tmodNeT ?_ ?_ ?_); omega; focus first | omega | assumption)
    | ((with_reducible refine Test.tmodNeF ?_ ?_ ?_); omega; focus first | omega | assumption)
    | ((with_reducible refine Test.tmodEq ?_ (fun h => ?_) (fun h => ?_)); omega)
    | ((with_reducible refine Test.tmodNe ?_ (fun h => ?_) (fun h => ?_)); omega)
    | ((with_reducible refine Test.notT ?_ ?_); focus assumption)
    | ((with_reducible refine Test.notF ?_ ?_); focus assumption)
    | (with_reducible refine Test.notIe (fun h => ?_) (fun h => ?_))
    | (with_reducible refine Test.notD (fun h => ?_) (fun h => ?_))
    | ((with_reducible refine Test.empty (fun h => ?_) (fun h => ?_)))
    | (with_reducible refine Test.tt ?_)
    | (with_reducible refine Test.ff ?_)
    | ((with_reducible refine Test.dt ?_ ?_); omega)
    | ((with_reducible refine Test.df ?_ ?_); omega)
    | (with_reducible refine Test.d (fun h => ?_) (fun h => ?_))
    | ((with_reducible refine Test.ieT ?_ ?_); omega)
    | ((with_reducible refine Test.ieF ?_ ?_); omega)
    | ((with_reducible refine Test.neT ?_ ?_); omega)
    | ((with_reducible refine Test.neF ?_ ?_); omega)
    | (with_reducible refine Test.ie (fun h => ?_) (fun h => ?_))
    | (with_reducible refine Test.ne (fun h => ?_) (fun h => ?_))
    | ((with_reducible refine Test.b ?_ ?_); (focus first | assumption | (simp [negB]; done) | exact rfl))
    | ((with_reducible refine Test.nb ?_ ?_); (focus first | assumption | (simp [negB]; done) | exact rfl))
    | (with_reducible refine Test.notS (fun h => ?_) (fun h => ?_))
    | (with_reducible refine Test.mk (fun h => ?_) (fun h => ?_))
    | ((with_reducible refine Arith.andu64_1 ?_ ?_); omega)
    | ((with_reducible refine Arith.tdiv ?_ ?_); omega)
    | (with_reducible refine Arith.bv8 ?_)
    | (with_reducible refine Arith.bv16 ?_)
    | (with_reducible refine Arith.bv32 ?_)
    | (with_reducible refine Arith.bv64 ?_)
    | ((with_reducible refine Arith.i64 ?_ ?_); omega)
    | ((with_reducible refine Arith.u64 ?_ ?_); omega)
    | ((with_reducible refine Arith.u32 ?_ ?_); omega)
    | ((with_reducible refine Arith.u16 ?_ ?_); omega)
    | ((with_reducible refine Arith.u8 ?_ ?_); omega)
    | ((with_reducible refine Arith.i32 ?_ ?_); omega)
    | ((with_reducible refine Arith.i64 ?_ ?_); simp (discharger := omega) only [Int.tdiv_eq_ediv_of_nonneg, shr_u8_4, shl_u8_4, shr_u16_4, shl_u16_4, shr_u16_8, shl_u16_8, shr_u32_4, shl_u32_4, shr_u32_8, shl_u32_8, shr_u32_16, shl_u32_16, shr_u32_24, shl_u32_24, shr_u64_4, shl_u64_4, shr_u64_8, shl_u64_8, shr_u64_16, shl_u64_16, shr_u64_24, shl_u64_24, shr_u64_40, shl_u64_40, shr_i64_4, shl_i64_4, shr_i64_8, shl_i64_8, shr_i64_16, shl_i64_16, shr_i64_24, shl_i64_24, shr_i64_40, shl_i64_40]; omega)
    | ((with_reducible refine Arith.u64 ?_ ?_); simp (discharger := omega) only [Int.tdiv_eq_ediv_of_nonneg, shr_u8_4, shl_u8_4, shr_u16_4, shl_u16_4, shr_u16_8, shl_u16_8, shr_u32_4, shl_u32_4, shr_u32_8, shl_u32_8, shr_u32_16, shl_u32_16, shr_u32_24, shl_u32_24, shr_u64_4, shl_u64_4, shr_u64_8, shl_u64_8, shr_u64_16, shl_u64_16, shr_u64_24, shl_u64_24, shr_u64_40, shl_u64_40, shr_i64_4, shl_i64_4, shr_i64_8, shl_i64_8, shr_i64_16, shl_i64_16, shr_i64_24, shl_i64_24, shr_i64_40, shl_i64_40]; omega)
    | ((with_reducible refine Arith.u32 ?_ ?_); simp (discharger := omega) only [Int.tdiv_eq_ediv_of_nonneg, shr_u8_4, shl_u8_4, shr_u16_4, shl_u16_4, shr_u16_8, shl_u16_8, shr_u32_4, shl_u32_4, shr_u32_8, shl_u32_8, shr_u32_16, shl_u32_16, shr_u32_24, shl_u32_24, shr_u64_4, shl_u64_4, shr_u64_8, shl_u64_8, shr_u64_16, shl_u64_16, shr_u64_24, shl_u64_24, shr_u64_40, shl_u64_40, shr_i64_4, shl_i64_4, shr_i64_8, shl_i64_8, shr_i64_16, shl_i64_16, shr_i64_24, shl_i64_24, shr_i64_40, shl_i64_40]; omega)
    | ((with_reducible refine Arith.u16 ?_ ?_); simp (discharger := omega) only [Int.tdiv_eq_ediv_of_nonneg, shr_u8_4, shl_u8_4, shr_u16_4, shl_u16_4, shr_u16_8, shl_u16_8, shr_u32_4, shl_u32_4, shr_u32_8, shl_u32_8, shr_u32_16, shl_u32_16, shr_u32_24, shl_u32_24, shr_u64_4, shl_u64_4, shr_u64_8, shl_u64_8, shr_u64_16, shl_u64_16, shr_u64_24, shl_u64_24, shr_u64_40, shl_u64_40, shr_i64_4, shl_i64_4, shr_i64_8, shl_i64_8, shr_i64_16, shl_i64_16, shr_i64_24, shl_i64_24, shr_i64_40, shl_i64_40]; omega)
    | ((with_reducible refine Arith.u8 ?_ ?_); simp (discharger := omega) only [Int.tdiv_eq_ediv_of_nonneg, shr_u8_4, shl_u8_4, shr_u16_4, shl_u16_4, shr_u16_8, shl_u16_8, shr_u32_4, shl_u32_4, shr_u32_8, shl_u32_8, shr_u32_16, shl_u32_16, shr_u32_24, shl_u32_24, shr_u64_4, shl_u64_4, shr_u64_8, shl_u64_8, shr_u64_16, shl_u64_16, shr_u64_24, shl_u64_24, shr_u64_40, shl_u64_40, shr_i64_4, shl_i64_4, shr_i64_8, shl_i64_8, shr_i64_16, shl_i64_16, shr_i64_24, shl_i64_24, shr_i64_40, shl_i64_40]; omega)
    | (with_reducible refine Arith.mk ?_)
    | (with_reducible refine Ends.mk ?_))
  all_goals first | exact ⟨rfl, rfl⟩ | (exfalso; simp_all; done) | (exfalso; omega)
set_option maxHeartbeats 4000000 in
theorem dec_det (s : ByteArray) (hs : s.size ≤ 1000000) : Det G Tryd.prog 14 [.o (.str s)] [] (.t [.a [.int .u64 (dT s), .int .u64 (dF s), .int .u16 (dK s), .str (dD s)], .o (.int .i64 (decE s))]) [] := by
  have b0 := nAt_bd s 0 6 (by decide)
  have b6 := nAt_bd s 6 6 (by decide)
  refine can_of_W known mix Tryd.func14 (by kernel_rfl) ok_ether_Decode (Nat.le_of_ble_eq_true rfl) ?_
  repeat' ((conv => whnf); first
    | ((with_reducible refine Look.mk ?_); refine ⟨_, rfl, ?_⟩)
    | ((with_reducible refine LookN.zeros ?_))
    | ((with_reducible refine LookN.bytes ?_ ?_); (simp; done))
    | ((with_reducible refine BytesW.bytes ?_))
    | ((with_reducible refine Look.byte ?_ ?_); omega)
    | ((with_reducible refine Look.setb ?_ ?_ ?_); exact bv8_bd _; omega)
    | ((with_reducible refine LookN.setb ?_ ?_ ?_); exact bv8_bd _; omega)
    | ((with_reducible refine LookN.mk ?_); refine ⟨_, rfl, ?_⟩)
    | ((with_reducible refine Need.mk ?_ ?_); first | ((with_reducible refine needB ?_); kernel_rfl) | with_reducible rfl | omega | (with_reducible refine ⟨rfl, ?_⟩; focus omega) | (simp only [ByteArray.size_append, size_lit, List.size_toArray, List.length_cons, List.length_nil, Sp.ofB_size, ByteArray.size_extract, hdr7_size, enc7_size, zer_size]; omega) | exact rfl | trivial | exact Nat.le_of_ble_eq_true rfl | (exact ⟨rfl, by omega⟩) | (intro h; first | rfl | cases h) | (simp only [lenS_text, lenS_setN, lenS_zeros]; omega))
    | ((with_reducible refine BytesW.mk ?_); refine ⟨_, rfl, ?_⟩)
    | (with_reducible refine CallW.det (mac0_det s (by omega) (by omega)) ?_)
    | (with_reducible refine CallW.det (mac6_det s (by omega) (by omega)) ?_)
    | (with_reducible refine CallW.det (wordTwo s 12 (by omega) (by omega)) ?_)
    | (with_reducible refine CallW.det (grp_det _ (by omega)) ?_)
    | ((with_reducible refine WrT.same ?_ ?_); focus (repeat (first | exact trivial | ((conv => whnf); refine ⟨rfl, ?_⟩))))
    | (with_reducible refine WrT.all ?_)
    | ((with_reducible refine Test.tmodEqT ?_ ?_ ?_); omega; focus first | omega | assumption)
    | ((with_reducible refine Test.tmodEqF ?_ ?_ ?_); omega; focus first | omega | assumption)
    | ((with_reducible refine Test.tmodNeT ?_ ?_ ?_); omega; focus first | omega | assumption)
    | ((with_reducible refine Test.tmodNeF ?_ ?_ ?_); omega; focus first | omega | assumption)
    | ((with_reducible refine Test.tmodEq ?_ (fun h => ?_) (fun h => ?_)); omega)
    | ((with_reducible refine Test.tmodNe ?_ (fun h => ?_) (fun h => ?_)); omega)
    | ((with_reducible refine Test.notT ?_ ?_); focus assumption)
    | ((with_reducible refine Test.notF ?_ ?_); focus assumption)
    | (with_reducible refine Test.notIe (fun h => ?_) (fun h => ?_))
    | (with_reducible refine Test.notD (fun h => ?_) (fun h => ?_))
    | ((with_reducible refine Test.empty (fun h => ?_) (fun h => ?_)))
    | (with_reducible refine Test.tt ?_)
    | (with_reducible refine Test.ff ?_)
    | ((with_reducible refine Test.dt ?_ ?_); omega)
    | ((with_reducible refine Test.df ?_ ?_); omega)
    | (with_reducible refine Test.d (fun h => ?_) (fun h => ?_))
    | ((with_reducible refine Test.ieT ?_ ?_); omega)
    | ((with_reducible refine Test.ieF ?_ ?_); omega)
    | ((with_reducible refine Test.neT ?_ ?_); omega)
    | ((with_reducible refine Test.neF ?_ ?_); omega)
    | (with_reducible refine Test.ie (fun h => ?_) (fun h => ?_))
    | (with_reducible refine Test.ne (fun h => ?_) (fun h => ?_))
    | ((with_reducible refine Test.b ?_ ?_); (focus first | assumption | (simp [negB]; done) | exact rfl))
    | ((with_reducible refine Test.nb ?_ ?_); (focus first | assumption | (simp [negB]; done) | exact rfl))
    | (with_reducible refine Test.notS (fun h => ?_) (fun h => ?_))
    | (with_reducible refine Test.mk (fun h => ?_) (fun h => ?_))
    | ((with_reducible refine Arith.andu64_1 ?_ ?_); omega)
    | ((with_reducible refine Arith.tdiv ?_ ?_); omega)
    | (with_reducible refine Arith.bv8 ?_)
    | (with_reducible refine Arith.bv16 ?_)
    | (with_reducible refine Arith.bv32 ?_)
    | (with_reducible refine Arith.bv64 ?_)
    | ((with_reducible refine Arith.i64 ?_ ?_); omega)
    | ((with_reducible refine Arith.u64 ?_ ?_); omega)
    | ((with_reducible refine Arith.u32 ?_ ?_); omega)
    | ((with_reducible refine Arith.u16 ?_ ?_); omega)
    | ((with_reducible refine Arith.u8 ?_ ?_); omega)
    | ((with_reducible refine Arith.i32 ?_ ?_); omega)
    | ((with_reducible refine Arith.i64 ?_ ?_); simp (discharger := omega) only [Int.tdiv_eq_ediv_of_nonneg, shr_u8_4, shl_u8_4, shr_u16_4, shl_u16_4, shr_u16_8, shl_u16_8, shr_u32_4, shl_u32_4, shr_u32_8, shl_u32_8, shr_u32_16, shl_u32_16, shr_u32_24, shl_u32_24, shr_u64_4, shl_u64_4, shr_u64_8, shl_u64_8, shr_u64_16, shl_u64_16, shr_u64_24, shl_u64_24, shr_u64_40, shl_u64_40, shr_i64_4, shl_i64_4, shr_i64_8, shl_i64_8, shr_i64_16, shl_i64_16, shr_i64_24, shl_i64_24, shr_i64_40, shl_i64_40]; omega)
    | ((with_reducible refine Arith.u64 ?_ ?_); simp (discharger := omega) only [Int.tdiv_eq_ediv_of_nonneg, shr_u8_4, shl_u8_4, shr_u16_4, shl_u16_4, shr_u16_8, shl_u16_8, shr_u32_4, shl_u32_4, shr_u32_8, shl_u32_8, shr_u32_16, shl_u32_16, shr_u32_24, shl_u32_24, shr_u64_4, shl_u64_4, shr_u64_8, shl_u64_8, shr_u64_16, shl_u64_16, shr_u64_24, shl_u64_24, shr_u64_40, shl_u64_40, shr_i64_4, shl_i64_4, shr_i64_8, shl_i64_8, shr_i64_16, shl_i64_16, shr_i64_24, shl_i64_24, shr_i64_40, shl_i64_40]; omega)
    | ((with_reducible refine Arith.u32 ?_ ?_); simp (discharger := omega) only [Int.tdiv_eq_ediv_of_nonneg, shr_u8_4, shl_u8_4, shr_u16_4, shl_u16_4, shr_u16_8, shl_u16_8, shr_u32_4, shl_u32_4, shr_u32_8, shl_u32_8, shr_u32_16, shl_u32_16, shr_u32_24, shl_u32_24, shr_u64_4, shl_u64_4, shr_u64_8, shl_u64_8, shr_u64_16, shl_u64_16, shr_u64_24, shl_u64_24, shr_u64_40, shl_u64_40, shr_i64_4, shl_i64_4, shr_i64_8, shl_i64_8, shr_i64_16, shl_i64_16, shr_i64_24, shl_i64_24, shr_i64_40, shl_i64_40]; omega)
    | ((with_reducible refine Arith.u16 ?_ ?_); simp (discharger := omega) only [Int.tdiv_eq_ediv_of_nonneg, shr_u8_4, shl_u8_4, shr_u16_4, shl_u16_4, shr_u16_8, shl_u16_8, shr_u32_4, shl_u32_4, shr_u32_8, shl_u32_8, shr_u32_16, shl_u32_16, shr_u32_24, shl_u32_24, shr_u64_4, shl_u64_4, shr_u64_8, shl_u64_8, shr_u64_16, shl_u64_16, shr_u64_24, shl_u64_24, shr_u64_40, shl_u64_40, shr_i64_4, shl_i64_4, shr_i64_8, shl_i64_8, shr_i64_16, shl_i64_16, shr_i64_24, shl_i64_24, shr_i64_40, shl_i64_40]; omega)
    | ((with_reducible refine Arith.u8 ?_ ?_); simp (discharger := omega) only [Int.tdiv_eq_ediv_of_nonneg, shr_u8_4, shl_u8_4, shr_u16_4, shl_u16_4, shr_u16_8, shl_u16_8, shr_u32_4, shl_u32_4, shr_u32_8, shl_u32_8, shr_u32_16, shl_u32_16, shr_u32_24, shl_u32_24, shr_u64_4, shl_u64_4, shr_u64_8, shl_u64_8, shr_u64_16, shl_u64_16, shr_u64_24, shl_u64_24, shr_u64_40, shl_u64_40, shr_i64_4, shl_i64_4, shr_i64_8, shl_i64_8, shr_i64_16, shl_i64_16, shr_i64_24, shl_i64_24, shr_i64_40, shl_i64_40]; omega)
    | (with_reducible refine Arith.mk ?_)
    | (with_reducible refine Ends.mk ?_))
  all_goals first
    | (refine ⟨dec_no ?_ (by decide), rfl⟩; unfold decE; simp_all; done)
    | (refine ⟨dec_no ?_ (by decide), rfl⟩; unfold decE; rw [if_pos (by omega)]; done)
    | (refine ⟨dec_no ?_ (by decide), rfl⟩; unfold decE; rw [if_neg (by omega), if_pos (by omega)]; done)
    | (refine ⟨dec_no ?_ (by decide), rfl⟩; unfold decE; rw [if_neg (by omega), if_neg (by omega), if_pos (by assumption)]; done)
    | (refine ⟨dec_yes ?_, rfl⟩; unfold decE; rw [if_neg (by omega), if_neg (by omega), if_neg (by simp_all)]; done)
set_option maxHeartbeats 4000000 in
theorem rdec_det (s : ByteArray) (hs : s.size ≤ 1000000) : Det G Tryd.prog 35 [.o (.str s)] [] (.t [.a [.int .u64 (dT s), .int .u64 (dF s), .int .u16 (dK s), .str (dD s)], .o (.int .i64 (decE s))]) [] := by
  have b0 := nAt_bd s 0 6 (by decide)
  have b6 := nAt_bd s 6 6 (by decide)
  have b2 := nAt2_bd s 12
  refine can_of_W known mix Tryd.func35 (by kernel_rfl) ok_ref07_Decode (Nat.le_of_ble_eq_true rfl) ?_
  repeat' ((conv => whnf); first
    | ((with_reducible refine Look.mk ?_); refine ⟨_, rfl, ?_⟩)
    | ((with_reducible refine LookN.zeros ?_))
    | ((with_reducible refine LookN.bytes ?_ ?_); (simp; done))
    | ((with_reducible refine BytesW.bytes ?_))
    | ((with_reducible refine Look.byte ?_ ?_); omega)
    | ((with_reducible refine Look.setb ?_ ?_ ?_); exact bv8_bd _; omega)
    | ((with_reducible refine LookN.setb ?_ ?_ ?_); exact bv8_bd _; omega)
    | ((with_reducible refine LookN.mk ?_); refine ⟨_, rfl, ?_⟩)
    | ((with_reducible refine Need.mk ?_ ?_); first | ((with_reducible refine needB ?_); kernel_rfl) | with_reducible rfl | omega | (with_reducible refine ⟨rfl, ?_⟩; focus omega) | (simp only [ByteArray.size_append, size_lit, List.size_toArray, List.length_cons, List.length_nil, Sp.ofB_size, ByteArray.size_extract, hdr7_size, enc7_size, zer_size]; omega) | exact rfl | trivial | exact Nat.le_of_ble_eq_true rfl | (exact ⟨rfl, by omega⟩) | (intro h; first | rfl | cases h) | (simp only [lenS_text, lenS_setN, lenS_zeros]; omega))
    | ((with_reducible refine BytesW.mk ?_); refine ⟨_, rfl, ?_⟩)
    | (with_reducible refine CallW.det (rNum0_6 s (by omega) (by omega)) ?_)
    | (with_reducible refine CallW.det (rNum6_6 s (by omega) (by omega)) ?_)
    | (with_reducible refine CallW.det (rNum12_2 s (by omega) (by omega)) ?_)
    | (with_reducible refine CallW.det (rgrp_det _ (by omega)) ?_)
    | ((with_reducible refine WrT.same ?_ ?_); focus (repeat (first | exact trivial | ((conv => whnf); refine ⟨rfl, ?_⟩))))
    | (with_reducible refine WrT.all ?_)
    | ((with_reducible refine Test.tmodEqT ?_ ?_ ?_); omega; focus first | omega | assumption)
    | ((with_reducible refine Test.tmodEqF ?_ ?_ ?_); omega; focus first | omega | assumption)
    | ((with_reducible refine Test.tmodNeT ?_ ?_ ?_); omega; focus first | omega | assumption)
    | ((with_reducible refine Test.tmodNeF ?_ ?_ ?_); omega; focus first | omega | assumption)
    | ((with_reducible refine Test.tmodEq ?_ (fun h => ?_) (fun h => ?_)); omega)
    | ((with_reducible refine Test.tmodNe ?_ (fun h => ?_) (fun h => ?_)); omega)
    | ((with_reducible refine Test.notT ?_ ?_); focus assumption)
    | ((with_reducible refine Test.notF ?_ ?_); focus assumption)
    | (with_reducible refine Test.notIe (fun h => ?_) (fun h => ?_))
    | (with_reducible refine Test.notD (fun h => ?_) (fun h => ?_))
    | ((with_reducible refine Test.empty (fun h => ?_) (fun h => ?_)))
    | (with_reducible refine Test.tt ?_)
    | (with_reducible refine Test.ff ?_)
    | ((with_reducible refine Test.dt ?_ ?_); omega)
    | ((with_reducible refine Test.df ?_ ?_); omega)
    | (with_reducible refine Test.d (fun h => ?_) (fun h => ?_))
    | ((with_reducible refine Test.ieT ?_ ?_); omega)
    | ((with_reducible refine Test.ieF ?_ ?_); omega)
    | ((with_reducible refine Test.neT ?_ ?_); omega)
    | ((with_reducible refine Test.neF ?_ ?_); omega)
    | (with_reducible refine Test.ie (fun h => ?_) (fun h => ?_))
    | (with_reducible refine Test.ne (fun h => ?_) (fun h => ?_))
    | ((with_reducible refine Test.b ?_ ?_); (focus first | assumption | (simp [negB]; done) | exact rfl))
    | ((with_reducible refine Test.nb ?_ ?_); (focus first | assumption | (simp [negB]; done) | exact rfl))
    | (with_reducible refine Test.notS (fun h => ?_) (fun h => ?_))
    | (with_reducible refine Test.mk (fun h => ?_) (fun h => ?_))
    | ((with_reducible refine Arith.andu64_1 ?_ ?_); omega)
    | ((with_reducible refine Arith.tdiv ?_ ?_); omega)
    | (with_reducible refine Arith.bv8 ?_)
    | (with_reducible refine Arith.bv16 ?_)
    | (with_reducible refine Arith.bv32 ?_)
    | (with_reducible refine Arith.bv64 ?_)
    | ((with_reducible refine Arith.i64 ?_ ?_); omega)
    | ((with_reducible refine Arith.u64 ?_ ?_); omega)
    | ((with_reducible refine Arith.u32 ?_ ?_); omega)
    | ((with_reducible refine Arith.u16 ?_ ?_); omega)
    | ((with_reducible refine Arith.u8 ?_ ?_); omega)
    | ((with_reducible refine Arith.i32 ?_ ?_); omega)
    | ((with_reducible refine Arith.i64 ?_ ?_); simp (discharger := omega) only [Int.tdiv_eq_ediv_of_nonneg, shr_u8_4, shl_u8_4, shr_u16_4, shl_u16_4, shr_u16_8, shl_u16_8, shr_u32_4, shl_u32_4, shr_u32_8, shl_u32_8, shr_u32_16, shl_u32_16, shr_u32_24, shl_u32_24, shr_u64_4, shl_u64_4, shr_u64_8, shl_u64_8, shr_u64_16, shl_u64_16, shr_u64_24, shl_u64_24, shr_u64_40, shl_u64_40, shr_i64_4, shl_i64_4, shr_i64_8, shl_i64_8, shr_i64_16, shl_i64_16, shr_i64_24, shl_i64_24, shr_i64_40, shl_i64_40]; omega)
    | ((with_reducible refine Arith.u64 ?_ ?_); simp (discharger := omega) only [Int.tdiv_eq_ediv_of_nonneg, shr_u8_4, shl_u8_4, shr_u16_4, shl_u16_4, shr_u16_8, shl_u16_8, shr_u32_4, shl_u32_4, shr_u32_8, shl_u32_8, shr_u32_16, shl_u32_16, shr_u32_24, shl_u32_24, shr_u64_4, shl_u64_4, shr_u64_8, shl_u64_8, shr_u64_16, shl_u64_16, shr_u64_24, shl_u64_24, shr_u64_40, shl_u64_40, shr_i64_4, shl_i64_4, shr_i64_8, shl_i64_8, shr_i64_16, shl_i64_16, shr_i64_24, shl_i64_24, shr_i64_40, shl_i64_40]; omega)
    | ((with_reducible refine Arith.u32 ?_ ?_); simp (discharger := omega) only [Int.tdiv_eq_ediv_of_nonneg, shr_u8_4, shl_u8_4, shr_u16_4, shl_u16_4, shr_u16_8, shl_u16_8, shr_u32_4, shl_u32_4, shr_u32_8, shl_u32_8, shr_u32_16, shl_u32_16, shr_u32_24, shl_u32_24, shr_u64_4, shl_u64_4, shr_u64_8, shl_u64_8, shr_u64_16, shl_u64_16, shr_u64_24, shl_u64_24, shr_u64_40, shl_u64_40, shr_i64_4, shl_i64_4, shr_i64_8, shl_i64_8, shr_i64_16, shl_i64_16, shr_i64_24, shl_i64_24, shr_i64_40, shl_i64_40]; omega)
    | ((with_reducible refine Arith.u16 ?_ ?_); simp (discharger := omega) only [Int.tdiv_eq_ediv_of_nonneg, shr_u8_4, shl_u8_4, shr_u16_4, shl_u16_4, shr_u16_8, shl_u16_8, shr_u32_4, shl_u32_4, shr_u32_8, shl_u32_8, shr_u32_16, shl_u32_16, shr_u32_24, shl_u32_24, shr_u64_4, shl_u64_4, shr_u64_8, shl_u64_8, shr_u64_16, shl_u64_16, shr_u64_24, shl_u64_24, shr_u64_40, shl_u64_40, shr_i64_4, shl_i64_4, shr_i64_8, shl_i64_8, shr_i64_16, shl_i64_16, shr_i64_24, shl_i64_24, shr_i64_40, shl_i64_40]; omega)
    | ((with_reducible refine Arith.u8 ?_ ?_); simp (discharger := omega) only [Int.tdiv_eq_ediv_of_nonneg, shr_u8_4, shl_u8_4, shr_u16_4, shl_u16_4, shr_u16_8, shl_u16_8, shr_u32_4, shl_u32_4, shr_u32_8, shl_u32_8, shr_u32_16, shl_u32_16, shr_u32_24, shl_u32_24, shr_u64_4, shl_u64_4, shr_u64_8, shl_u64_8, shr_u64_16, shl_u64_16, shr_u64_24, shl_u64_24, shr_u64_40, shl_u64_40, shr_i64_4, shl_i64_4, shr_i64_8, shl_i64_8, shr_i64_16, shl_i64_16, shr_i64_24, shl_i64_24, shr_i64_40, shl_i64_40]; omega)
    | (with_reducible refine Arith.mk ?_)
    | (with_reducible refine Ends.mk ?_))
  all_goals first
    | (refine ⟨dec_no ?_ (by decide), rfl⟩; unfold decE; simp_all; done)
    | (refine ⟨dec_no ?_ (by decide), rfl⟩; unfold decE; rw [if_pos (by omega)]; done)
    | (refine ⟨dec_no ?_ (by decide), rfl⟩; unfold decE; rw [if_neg (by omega), if_pos (by omega)]; done)
    | (refine ⟨dec_no ?_ (by decide), rfl⟩; unfold decE; rw [if_neg (by omega), if_neg (by omega), if_pos (by assumption)]; done)
    | (refine ⟨dec_yes ?_, rfl⟩; unfold decE; rw [if_neg (by omega), if_neg (by omega), if_neg (by simp_all)]; done)
end G4
end Go.Proofs.YtnikpanebkknfaaDoor.VM
