/- laws 10 and 14, plain: what a packet's bytes say. -/
import Derived.Test.YtnmeeafnobfobaaV10b
namespace Go.Proofs.Ytnmeeafnobfobaa.VM
namespace G2
open Go.RowKit
set_option linter.unusedVariables false
set_option linter.unusedSimpArgs false
/-- A packet's head. -/
def header10 (tos id : Int) (hold more : Bool) (at_ ttl proto fr to : Int) (o : ByteArray) (dl : Int) : ByteArray :=
  front10 tos id hold more at_ ttl proto (20 + o.size) dl ++ Sp.ofB (sum10 (front10 tos id hold more at_ ttl proto (20 + o.size) dl) (back10 fr to o)) 2 ++ back10 fr to o
theorem raw10_header (tos id : Int) (hold more : Bool) (at_ ttl proto fr to : Int) (o d : ByteArray) : raw10 tos id hold more at_ ttl proto fr to o d = header10 tos id hold more at_ ttl proto fr to o d.size ++ d := rfl
theorem header10_size (tos id : Int) (hold more : Bool) (at_ ttl proto fr to : Int) (o : ByteArray) (dl : Int) : (header10 tos id hold more at_ ttl proto fr to o dl).size = 20 + o.size := by
  unfold header10 back10; simp only [ByteArray.size_append, front10_size, Sp.ofB_size]; omega
theorem header10_sum (tos id : Int) (hold more : Bool) (at_ ttl proto fr to : Int) (o : ByteArray) (dl : Int) (ho : (o.size : Int) ≤ 40) : Sp.sumB (header10 tos id hold more at_ ttl proto fr to o dl) = 65535 := by
  unfold header10
  have hf : (front10 tos id hold more at_ ttl proto (20 + o.size) dl).size % 2 = 0 := by rw [front10_size]
  have hne : Sp.sumB (front10 tos id hold more at_ ttl proto (20 + o.size) dl) ≠ 0 := by
    unfold front10
    rw [app_assoc, app_assoc, app_assoc]
    intro h
    have hz : (⟨#[UInt8.ofNat (64 + (20 + (o.size : Int)) / 4).toNat, UInt8.ofNat tos.toNat]⟩ : ByteArray).size = 2 := rfl
    have h1 := ((Sp.sumB_zero_append _ _ (by rw [hz])).1 h).1
    rw [Sp.sumB_word _ hz] at h1
    unfold Sp.word at h1
    have b0 : Sp.bt (⟨#[UInt8.ofNat (64 + (20 + (o.size : Int)) / 4).toNat, UInt8.ofNat tos.toNat]⟩ : ByteArray) 0 = 64 + (20 + (o.size : Int)) / 4 := u8i _ (by omega)
    have b1 := Sp.bt_bd (⟨#[UInt8.ofNat (64 + (20 + (o.size : Int)) / 4).toNat, UInt8.ofNat tos.toNat]⟩ : ByteArray) (0 + 1)
    omega
  have := Sp.sum_put (front10 tos id hold more at_ ttl proto (20 + o.size) dl) ⟨#[]⟩ (back10 fr to o) (sum10 (front10 tos id hold more at_ ttl proto (20 + o.size) dl) (back10 fr to o)) hf (by decide) hne (by rw [nil_app, sum_zero _ _ hf]; rfl)
  rw [nil_app] at this
  rwa [app_assoc]
theorem header10_list (tos id : Int) (hold more : Bool) (at_ ttl proto fr to : Int) (o : ByteArray) (dl : Int) : ∃ c1 c2, (header10 tos id hold more at_ ttl proto fr to o dl).data.toList =
    [UInt8.ofNat (64 + (20 + (o.size : Int)) / 4).toNat, UInt8.ofNat tos.toNat, UInt8.ofNat ((20 + (o.size : Int) + dl) / 256 % 256).toNat, UInt8.ofNat ((20 + (o.size : Int) + dl) % 256).toNat,
     UInt8.ofNat (id / 256 % 256).toNat, UInt8.ofNat (id % 256).toNat, UInt8.ofNat (flags10 hold more at_ / 256 % 256).toNat, UInt8.ofNat (flags10 hold more at_ % 256).toNat,
     UInt8.ofNat ttl.toNat, UInt8.ofNat proto.toNat, c1, c2,
     UInt8.ofNat (fr / 16777216 % 256).toNat, UInt8.ofNat (fr / 65536 % 256).toNat, UInt8.ofNat (fr / 256 % 256).toNat, UInt8.ofNat (fr % 256).toNat,
     UInt8.ofNat (to / 16777216 % 256).toNat, UInt8.ofNat (to / 65536 % 256).toNat, UInt8.ofNat (to / 256 % 256).toNat, UInt8.ofNat (to % 256).toNat] ++ o.data.toList := by
  unfold header10 back10
  generalize hc : sum10 _ _ = c
  clear hc
  refine ⟨UInt8.ofNat (c / 256 % 256).toNat, UInt8.ofNat (c % 256).toNat, ?_⟩
  unfold front10
  simp only [Sp.append_toList, ofB2_list, ofB4_list, List.cons_append, List.nil_append, List.append_assoc]
theorem flags10_bd (hold more : Bool) (at_ : Int) (h : 0 ≤ at_ ∧ at_ ≤ 65535) : 0 ≤ flags10 hold more at_ ∧ flags10 hold more at_ ≤ 32767 := by
  cases hold <;> cases more <;> simp only [flags10] <;> omega
theorem flags10_hold (hold more : Bool) (at_ : Int) (h : 0 ≤ at_ ∧ at_ ≤ 65535) : (flags10 hold more at_ / 16384 % 2 * 16384 != 0) = hold := by
  cases hold <;> cases more <;> simp only [flags10] <;> first | (rw [bne_iff_ne]; omega) | (rw [bne_eq_false_iff_eq]; omega)
theorem flags10_more (hold more : Bool) (at_ : Int) (h : 0 ≤ at_ ∧ at_ ≤ 65535) : (flags10 hold more at_ / 8192 % 2 * 8192 != 0) = more := by
  cases hold <;> cases more <;> simp only [flags10] <;> first | (rw [bne_iff_ne]; omega) | (rw [bne_eq_false_iff_eq]; omega)
theorem flags10_at (hold more : Bool) (at_ : Int) (h : 0 ≤ at_ ∧ at_ ≤ 65535) : flags10 hold more at_ % 8192 = at_ / 8 := by
  cases hold <;> cases more <;> simp only [flags10] <;> omega
/-- What the bytes of a head say, whatever stands behind it. -/
structure Says10 (s : ByteArray) (tos id : Int) (hold more : Bool) (at_ ttl proto fr to : Int) (o r : ByteArray) (dl : Int) : Prop where
  size : s.size = 20 + o.size + r.size
  b0 : bAt s (Int.toNat 0) = 64 + (20 + (o.size : Int)) / 4
  htos : bAt s (Int.toNat 1) = tos
  all : n2 s 2 = 20 + o.size + dl
  hid : n2 s 4 = id
  hfl : n2 s 6 = flags10 hold more at_
  httl : bAt s (Int.toNat 8) = ttl
  hproto : bAt s (Int.toNat 9) = proto
  hfr : n4 s 12 = fr
  hto : n4 s 16 = to
  ho : s.extract 20 (20 + o.size) = o
  hh : s.extract 0 (20 + o.size) = header10 tos id hold more at_ ttl proto fr to o dl
  hr : ∀ m, s.extract (20 + o.size) (20 + o.size + m) = r.extract 0 m
theorem says10 (tos id : Int) (hold more : Bool) (at_ ttl proto fr to : Int) (o r : ByteArray) (dl : Int) (htos : 0 ≤ tos ∧ tos ≤ 255) (hid : 0 ≤ id ∧ id ≤ 65535) (hat : 0 ≤ at_ ∧ at_ ≤ 65535) (httl : 0 ≤ ttl ∧ ttl ≤ 255) (hproto : 0 ≤ proto ∧ proto ≤ 255) (hfr : 0 ≤ fr ∧ fr ≤ 4294967295) (hto : 0 ≤ to ∧ to ≤ 4294967295)
    (ho : (o.size : Int) ≤ 40) (hdl : 0 ≤ dl ∧ 20 + (o.size : Int) + dl ≤ 65535) : Says10 (header10 tos id hold more at_ ttl proto fr to o dl ++ r) tos id hold more at_ ttl proto fr to o r dl := by
  have hz := header10_size tos id hold more at_ ttl proto fr to o dl
  have hfb := flags10_bd hold more at_ hat
  obtain ⟨c1, c2, hl⟩ := header10_list tos id hold more at_ ttl proto fr to o dl
  have hL := Sp.append_toList (header10 tos id hold more at_ ttl proto fr to o dl) r
  rw [hl] at hL
  have hs : (header10 tos id hold more at_ ttl proto fr to o dl ++ r).size = 20 + o.size + r.size := by rw [ByteArray.size_append, hz]
  refine ⟨hs, ?_, ?_, ?_, ?_, ?_, ?_, ?_, ?_, ?_, ?_, ?_, ?_⟩
  · rw [bAt_list hL]
    simp only [show Int.toNat 0 = 0 from rfl, List.cons_append, List.getElem?_cons_zero, List.getElem?_cons_succ, Option.getD_some]; exact u8i _ (by omega)
  · rw [bAt_list hL]
    simp only [show Int.toNat 1 = 1 from rfl, List.cons_append, List.getElem?_cons_zero, List.getElem?_cons_succ, Option.getD_some]; exact u8i _ htos
  · rw [n2_b _ _ (by omega) (by omega), bAt_list hL, bAt_list hL]
    simp only [show (2 : Int).toNat = 2 from rfl, show ((2 : Int) + 1).toNat = 3 from rfl, List.cons_append, List.getElem?_cons_zero, List.getElem?_cons_succ, Option.getD_some, u8m]; omega
  · rw [n2_b _ _ (by omega) (by omega), bAt_list hL, bAt_list hL]
    simp only [show (4 : Int).toNat = 4 from rfl, show ((4 : Int) + 1).toNat = 5 from rfl, List.cons_append, List.getElem?_cons_zero, List.getElem?_cons_succ, Option.getD_some, u8m]; omega
  · rw [n2_b _ _ (by omega) (by omega), bAt_list hL, bAt_list hL]
    simp only [show (6 : Int).toNat = 6 from rfl, show ((6 : Int) + 1).toNat = 7 from rfl, List.cons_append, List.getElem?_cons_zero, List.getElem?_cons_succ, Option.getD_some, u8m]; omega
  · rw [bAt_list hL]
    simp only [show Int.toNat 8 = 8 from rfl, List.cons_append, List.getElem?_cons_zero, List.getElem?_cons_succ, Option.getD_some]; exact u8i _ httl
  · rw [bAt_list hL]
    simp only [show Int.toNat 9 = 9 from rfl, List.cons_append, List.getElem?_cons_zero, List.getElem?_cons_succ, Option.getD_some]; exact u8i _ hproto
  · rw [n4_b _ _ (by omega) (by omega), bAt_list hL, bAt_list hL, bAt_list hL, bAt_list hL]
    simp only [show (12 : Int).toNat = 12 from rfl, show ((12 : Int) + 1).toNat = 13 from rfl, show ((12 : Int) + (1 + 1)).toNat = 14 from rfl, show ((12 : Int) + (1 + 1 + 1)).toNat = 15 from rfl, List.cons_append, List.getElem?_cons_zero, List.getElem?_cons_succ, Option.getD_some, u8m]; omega
  · rw [n4_b _ _ (by omega) (by omega), bAt_list hL, bAt_list hL, bAt_list hL, bAt_list hL]
    simp only [show (16 : Int).toNat = 16 from rfl, show ((16 : Int) + 1).toNat = 17 from rfl, show ((16 : Int) + (1 + 1)).toNat = 18 from rfl, show ((16 : Int) + (1 + 1 + 1)).toNat = 19 from rfl, List.cons_append, List.getElem?_cons_zero, List.getElem?_cons_succ, Option.getD_some, u8m]; omega
  · apply ba_ext
    rw [Sp.extract_toList, Sp.append_toList, List.take_append_of_le_length (by rw [Sp.size_toList]; omega), List.take_of_length_le (by rw [Sp.size_toList]; omega), hl]
    simp
  · apply ba_ext
    rw [Sp.extract_toList, Sp.append_toList, List.take_append_of_le_length (by rw [Sp.size_toList]; omega), List.take_of_length_le (by rw [Sp.size_toList]; omega), List.drop_zero]
  · intro m
    apply ba_ext
    rw [Sp.extract_toList, Sp.extract_toList, Sp.append_toList, List.take_append, Sp.size_toList, hz, show 20 + o.size + m - (20 + o.size) = m by omega, List.take_of_length_le (by rw [Sp.size_toList]; omega), List.drop_append, Sp.size_toList, hz, Nat.sub_self, List.drop_of_length_le (by rw [Sp.size_toList]; omega), List.nil_append]
section
variable {s : ByteArray} {tos id : Int} {hold more : Bool} {at_ ttl proto fr to : Int} {o r : ByteArray} {dl : Int}
theorem Says10.hl (h : Says10 s tos id hold more at_ ttl proto fr to o r dl) (ho : (o.size : Int) ≤ 40) (ho4 : (o.size : Int) % 4 = 0) : hl10 s = 20 + o.size := by unfold hl10; rw [h.b0]; omega
theorem Says10.hhold (h : Says10 s tos id hold more at_ ttl proto fr to o r dl) (ha : 0 ≤ at_ ∧ at_ ≤ 65535) : hold10 s = hold := by unfold hold10; rw [h.hfl]; exact flags10_hold _ _ _ ha
theorem Says10.hmore (h : Says10 s tos id hold more at_ ttl proto fr to o r dl) (ha : 0 ≤ at_ ∧ at_ ≤ 65535) : more10 s = more := by unfold more10; rw [h.hfl]; exact flags10_more _ _ _ ha
theorem Says10.hat (h : Says10 s tos id hold more at_ ttl proto fr to o r dl) (ha : 0 ≤ at_ ∧ at_ ≤ 65535) (ha8 : at_ % 8 = 0) : at10 s = at_ := by unfold at10; rw [h.hfl, flags10_at _ _ _ ha]; omega
/-- Decode, of a packet's bytes, whatever stands behind them. -/
theorem Says10.dec (h : Says10 s tos id hold more at_ ttl proto fr to o r dl) (hm : may10 at_ o = true) (hw : whole10 more dl = true) (hf : fits10 at_ dl o = true) (hr : dl ≤ r.size) (hd : 0 ≤ dl) :
    dec10e s = 0 ∧ dec10 s = hdr tos id hold more at_ ttl proto fr to o ∧ dec10d s = r.extract 0 dl.toNat := by
  have hmb := may10_bd hm
  have hz := h.size
  have e1 := h.hl hmb.2.2.2.1 hmb.2.2.2.2
  have e2 : (hl10 s).toNat = 20 + o.size := by omega
  have e3 := h.hhold (by omega)
  have e4 := h.hmore (by omega)
  have e5 := h.hat (by omega) hmb.2.2.1
  have e6 : s.extract (Int.toNat 20) (20 + o.size) = o := h.ho
  have e7 : n2 s 2 - hl10 s = dl := by rw [h.all, e1]; omega
  have hfb := flags10_bd hold more at_ (by omega)
  have hbad : ¬ bad10 s = true := bad10_f s (by rw [h.hfl]; omega) (by rw [e4, e7]; exact hw) (by rw [e5, e7, e2, e6]; exact hf)
  have e8 : Sp.sumB (s.extract (Int.toNat 0) (hl10 s).toNat) = 65535 := by rw [e2, show s.extract (Int.toNat 0) (20 + o.size) = _ from h.hh]; exact header10_sum _ _ _ _ _ _ _ _ _ _ _ hmb.2.2.2.1
  have e0 : dec10e s = 0 := by
    unfold dec10e
    rw [if_neg (by omega), if_neg (by rw [h.b0]; omega), if_neg (by omega), if_neg (by omega), if_neg (by rw [h.all]; omega), if_neg (by rw [h.all]; omega), if_neg (by omega), if_neg hbad]
  refine ⟨e0, ?_, ?_⟩
  · unfold dec10
    rw [if_pos e0, e2, e6, e3, e4, e5, h.htos, h.hid, h.httl, h.hproto, h.hfr, h.hto]
  · unfold dec10d
    rw [if_pos e0, e2, h.all, show ((20 : Int) + o.size + dl).toNat = 20 + o.size + dl.toNat by omega]
    exact h.hr _
end
end G2
end Go.Proofs.Ytnmeeafnobfobaa.VM
