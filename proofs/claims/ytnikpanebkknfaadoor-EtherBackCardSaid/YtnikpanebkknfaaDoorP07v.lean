/- Law 7, in plain Lean: numbers as bytes, there and back; frames. -/
import Derived.Test.YtnikpanebkknfaaDoorV07h
namespace Go.Proofs.YtnikpanebkknfaaDoor.VM
namespace G4
open Go.RowKit
set_option linter.unusedVariables false
set_option linter.unusedSimpArgs false
theorem six_of (l : List UInt8) (h : l.length = 6) : ∃ a b c d e f, l = [a, b, c, d, e, f] := by
  match l, h with
  | [a, b, c, d, e, f], _ => exact ⟨a, b, c, d, e, f, rfl⟩
theorem two_of (l : List UInt8) (h : l.length = 2) : ∃ a b, l = [a, b] := by
  match l, h with
  | [a, b], _ => exact ⟨a, b, rfl⟩
theorem ofL6 (x : Int) : Sp.ofL x 6 = [UInt8.ofNat (x / 1099511627776 % 256).toNat, UInt8.ofNat (x / 4294967296 % 256).toNat, UInt8.ofNat (x / 16777216 % 256).toNat, UInt8.ofNat (x / 65536 % 256).toNat, UInt8.ofNat (x / 256 % 256).toNat, UInt8.ofNat (x / 1 % 256).toNat] := by
  rw [Sp.ofL_succ, Sp.ofL_succ, Sp.ofL_succ, Sp.ofL_succ, Sp.ofL_succ, Sp.ofL_succ]; rfl
theorem ofL2 (x : Int) : Sp.ofL x 2 = [UInt8.ofNat (x / 256 % 256).toNat, UInt8.ofNat (x / 1 % 256).toNat] := by
  rw [Sp.ofL_succ, Sp.ofL_succ]; rfl
theorem u8_back (c : UInt8) (x : Int) (h : x = c.toNat) : UInt8.ofNat x.toNat = c := by
  subst h; simp
theorem u8_toNat (x : Int) : ((UInt8.ofNat (x % 256).toNat).toNat : Int) = x % 256 := by
  rw [UInt8.toNat_ofNat_of_lt' (by show (x % 256).toNat < 256; omega)]; omega
theorem ofL_be6 (l : List UInt8) (h : l.length = 6) : Sp.ofL (Sp.be l) 6 = l := by
  obtain ⟨a, b, c, d, e, f, rfl⟩ := six_of l h
  have ha := a.toNat_lt; have hb := b.toNat_lt; have hc := c.toNat_lt; have hd := d.toNat_lt; have he := e.toNat_lt; have hf := f.toNat_lt
  have hv : Sp.be [a, b, c, d, e, f] = ((((a.toNat * 256 + b.toNat) * 256 + c.toNat) * 256 + d.toNat) * 256 + e.toNat) * 256 + f.toNat := by simp [Sp.be]
  rw [ofL6, hv, u8_back a _ (by omega), u8_back b _ (by omega), u8_back c _ (by omega), u8_back d _ (by omega), u8_back e _ (by omega), u8_back f _ (by omega)]
theorem ofL_be2 (l : List UInt8) (h : l.length = 2) : Sp.ofL (Sp.be l) 2 = l := by
  obtain ⟨a, b, rfl⟩ := two_of l h
  have ha := a.toNat_lt; have hb := b.toNat_lt
  have hv : Sp.be [a, b] = a.toNat * 256 + b.toNat := by simp [Sp.be]
  rw [ofL2, hv, u8_back a _ (by omega), u8_back b _ (by omega)]
theorem be_ofL6 (x : Int) (h : 0 ≤ x ∧ x ≤ 281474976710655) : (Sp.be (Sp.ofL x 6) : Int) = x := by
  rw [ofL6]
  have h0 := u8_toNat (x / 1099511627776); have h1 := u8_toNat (x / 4294967296); have h2 := u8_toNat (x / 16777216); have h3 := u8_toNat (x / 65536); have h4 := u8_toNat (x / 256); have h5 := u8_toNat (x / 1)
  simp only [Sp.be, List.foldl]
  omega
theorem be_ofL2 (x : Int) (h : 0 ≤ x ∧ x ≤ 65535) : (Sp.be (Sp.ofL x 2) : Int) = x := by
  rw [ofL2]
  have h4 := u8_toNat (x / 256); have h5 := u8_toNat (x / 1)
  simp only [Sp.be, List.foldl]
  omega
theorem ofB_list (x : Int) (n : Nat) : (Sp.ofB x n).data.toList = Sp.ofL x n := rfl
theorem list_bytes {a b : ByteArray} (h : a.data.toList = b.data.toList) : a = b := ByteArray.ext (Array.toList_inj.1 h)
/-- What was read is written as it was. -/
theorem hdr_back (s : ByteArray) (h : 14 ≤ s.size) : hdr7 (nAt s 0 6) (nAt s 6 6) (nAt s 12 2) (s.extract 14 s.size) = s := by
  apply list_bytes
  have hl := Sp.size_toList s
  unfold hdr7 nAt
  simp only [Sp.append_toList, ofB_list, Sp.extract_toList]
  rw [ofL_be6 _ (by simp; omega), ofL_be6 _ (by simp; omega), ofL_be2 _ (by simp; omega)]
  rw [← hl, List.take_length, List.drop_zero]
  generalize s.data.toList = l at *
  have e1 : l.take 6 ++ (l.drop 6).take 6 = l.take 12 := by rw [← List.take_add]
  have e2 : l.take 12 ++ (l.drop 12).take 2 = l.take 14 := by rw [← List.take_add]
  rw [e1, e2, List.take_append_drop]
/-- What was written is read. -/
theorem hdr_list (t f k : Int) (d : ByteArray) : (hdr7 t f k d).data.toList = Sp.ofL t 6 ++ (Sp.ofL f 6 ++ (Sp.ofL k 2 ++ d.data.toList)) := by
  unfold hdr7; simp only [Sp.append_toList, ofB_list, List.append_assoc]
theorem hdr_read (t f k : Int) (d : ByteArray) (ht : 0 ≤ t ∧ t ≤ 281474976710655) (hf : 0 ≤ f ∧ f ≤ 281474976710655) (hk : 0 ≤ k ∧ k ≤ 65535) :
    nAt (hdr7 t f k d) 0 6 = t ∧ nAt (hdr7 t f k d) 6 6 = f ∧ nAt (hdr7 t f k d) 12 2 = k ∧ (hdr7 t f k d).extract 14 (hdr7 t f k d).size = d := by
  refine ⟨?_, ?_, ?_, ?_⟩
  · unfold nAt
    rw [hdr_list, List.drop_zero, List.take_append_of_le_length (by rw [Sp.ofL_length]; omega), List.take_of_length_le (by rw [Sp.ofL_length]; omega)]
    exact be_ofL6 t ht
  · unfold nAt
    rw [hdr_list, List.drop_append_of_le_length (by rw [Sp.ofL_length]; omega), List.drop_of_length_le (by rw [Sp.ofL_length]; omega), List.nil_append, List.take_append_of_le_length (by rw [Sp.ofL_length]; omega), List.take_of_length_le (by rw [Sp.ofL_length]; omega)]
    exact be_ofL6 f hf
  · unfold nAt
    rw [hdr_list, ← List.append_assoc, List.drop_append_of_le_length (by rw [List.length_append, Sp.ofL_length, Sp.ofL_length]; omega), List.drop_of_length_le (by rw [List.length_append, Sp.ofL_length, Sp.ofL_length]; omega), List.nil_append, List.take_append_of_le_length (by rw [Sp.ofL_length]; omega), List.take_of_length_le (by rw [Sp.ofL_length]; omega)]
    exact be_ofL2 k hk
  · apply list_bytes
    rw [Sp.extract_toList, ← Sp.size_toList, List.take_length, hdr_list, ← List.append_assoc, ← List.append_assoc, List.drop_append_of_le_length (by simp only [List.length_append, Sp.ofL_length]; omega), List.drop_of_length_le (by simp only [List.length_append, Sp.ofL_length]; omega), List.nil_append]
theorem enc_hdr (t f k : Int) (d : ByteArray) : enc7 t f k d = hdr7 t f k (d ++ zer (60 - (hdr7 t f k d).size)) := by
  apply list_bytes
  unfold enc7
  rw [Sp.append_toList, hdr_list, hdr_list, Sp.append_toList]
  simp only [List.append_assoc]
theorem enc7_size (t f k : Int) (d : ByteArray) : (enc7 t f k d).size = max 60 (14 + d.size) := by
  unfold enc7; rw [ByteArray.size_append, zer_size, hdr7_size]; omega
end G4
end Go.Proofs.YtnikpanebkknfaaDoor.VM
