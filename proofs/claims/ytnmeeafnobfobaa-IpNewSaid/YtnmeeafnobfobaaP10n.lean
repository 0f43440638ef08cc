/- law 10, plain: a packet that is passed on; a byte of a head that is another one. -/
import Derived.Test.YtnmeeafnobfobaaV10f
namespace Go.Proofs.Ytnmeeafnobfobaa.VM
namespace G2
open Go.RowKit
set_option linter.unusedVariables false
set_option linter.unusedSimpArgs false
/-- A packet's bytes, by its TTL. -/
def R10 (tos id : Int) (hold more : Bool) (at_ proto fr tt : Int) (o d : ByteArray) (j : Int) : ByteArray := header10 tos id hold more at_ j proto fr tt o d.size ++ d
def F8 (tos id : Int) (hold more : Bool) (at_ n d : Int) : ByteArray := ⟨#[UInt8.ofNat (64 + n / 4).toNat, UInt8.ofNat tos.toNat]⟩ ++ Sp.ofB (n + d) 2 ++ Sp.ofB id 2 ++ Sp.ofB (flags10 hold more at_) 2
theorem F8_size (tos id : Int) (hold more : Bool) (at_ n d : Int) : (F8 tos id hold more at_ n d).size = 8 := by unfold F8; simp only [ByteArray.size_append, size_lit, Sp.ofB_size]; rfl
theorem front10_F8 (tos id : Int) (hold more : Bool) (at_ ttl proto n d : Int) : front10 tos id hold more at_ ttl proto n d = F8 tos id hold more at_ n d ++ ⟨#[UInt8.ofNat ttl.toNat, UInt8.ofNat proto.toNat]⟩ := rfl
theorem two_ofB (a b : Int) (ha : 0 ≤ a ∧ a ≤ 255) (hb : 0 ≤ b ∧ b ≤ 255) : Sp.ofB (256 * a + b) 2 = ⟨#[UInt8.ofNat a.toNat, UInt8.ofNat b.toNat]⟩ := by
  apply ba_ext
  rw [ofB2_list, show (256 * a + b) / 256 % 256 = a by omega, show (256 * a + b) % 256 = b by omega]
theorem lit2_sum (a b : Int) (ha : 0 ≤ a ∧ a ≤ 255) (hb : 0 ≤ b ∧ b ≤ 255) : Sp.sumB ⟨#[UInt8.ofNat a.toNat, UInt8.ofNat b.toNat]⟩ = 256 * a + b := by
  rw [← two_ofB a b ha hb]; exact Sp.sumB_ofB2 _ (by omega) (by omega)
theorem sum_turned (F B : ByteArray) (a p : Int) (hF : F.size % 2 = 0) (hne : Sp.sumB F ≠ 0) (ha : 1 ≤ a ∧ a ≤ 255) (hp : 0 ≤ p ∧ p ≤ 255) (ha2 : 2 ≤ a) :
    Sp.turnV (sum10 (F ++ ⟨#[UInt8.ofNat a.toNat, UInt8.ofNat p.toNat]⟩) B) (256 * a + p) (256 * a + p - 256) = sum10 (F ++ ⟨#[UInt8.ofNat (a - 1).toNat, UInt8.ofNat p.toNat]⟩) B := by
  have s1 := lit2_sum a p (by omega) hp
  have s2 := lit2_sum (a - 1) p (by omega) hp
  have c1 := sum10_bd (F ++ ⟨#[UInt8.ofNat a.toNat, UInt8.ofNat p.toNat]⟩) B
  have c2 := sum10_bd (F ++ ⟨#[UInt8.ofNat (a - 1).toNat, UInt8.ofNat p.toNat]⟩) B
  have m1 := Sp.sumB_mod_append F (⟨#[UInt8.ofNat a.toNat, UInt8.ofNat p.toNat]⟩ ++ B) hF
  have m2 := Sp.sumB_mod_append F (⟨#[UInt8.ofNat (a - 1).toNat, UInt8.ofNat p.toNat]⟩ ++ B) hF
  have m3 := Sp.sumB_mod_append ⟨#[UInt8.ofNat a.toNat, UInt8.ofNat p.toNat]⟩ B (by simp [size_lit])
  have m4 := Sp.sumB_mod_append ⟨#[UInt8.ofNat (a - 1).toNat, UInt8.ofNat p.toNat]⟩ B (by simp [size_lit])
  have n2 : Sp.sumB (F ++ (⟨#[UInt8.ofNat (a - 1).toNat, UInt8.ofNat p.toNat]⟩ ++ B)) ≠ 0 := fun h => hne ((Sp.sumB_zero_append _ _ hF).1 h).1
  have tm := Sp.turnV_mod (sum10 (F ++ ⟨#[UInt8.ofNat a.toNat, UInt8.ofNat p.toNat]⟩) B) (256 * a + p) (256 * a + p - 256)
  have tb := Sp.turnV_bd (sum10 (F ++ ⟨#[UInt8.ofNat a.toNat, UInt8.ofNat p.toNat]⟩) B) (256 * a + p) (256 * a + p - 256) c1.1 c1.2 (by omega) (by omega) (by omega) (by omega)
  have t0 : Sp.turnV (sum10 (F ++ ⟨#[UInt8.ofNat a.toNat, UInt8.ofNat p.toNat]⟩) B) (256 * a + p) (256 * a + p - 256) ≠ 65535 := by
    unfold Sp.turnV
    intro h
    have := (Sp.addStep_zero (Sp.addStep (65535 - sum10 (F ++ ⟨#[UInt8.ofNat a.toNat, UInt8.ofNat p.toNat]⟩) B) (65535 - (256 * a + p))) (256 * a + p - 256) (by unfold Sp.addStep; omega) (by omega)).1 (by omega)
    omega
  rw [s1] at m3
  rw [s2] at m4
  unfold sum10 at *
  rw [app_assoc] at *
  rw [app_assoc] at *
  omega
theorem F8_ne (tos id : Int) (hold more : Bool) (at_ d : Int) (o : ByteArray) (ho : (o.size : Int) ≤ 40) : Sp.sumB (F8 tos id hold more at_ (20 + o.size) d) ≠ 0 := by
  unfold F8
  rw [app_assoc, app_assoc]
  intro h
  have hz : (⟨#[UInt8.ofNat (64 + (20 + (o.size : Int)) / 4).toNat, UInt8.ofNat tos.toNat]⟩ : ByteArray).size = 2 := rfl
  have h1 := ((Sp.sumB_zero_append _ _ (by rw [hz])).1 h).1
  rw [Sp.sumB_word _ hz] at h1
  unfold Sp.word at h1
  have b0 : Sp.bt (⟨#[UInt8.ofNat (64 + (20 + (o.size : Int)) / 4).toNat, UInt8.ofNat tos.toNat]⟩ : ByteArray) 0 = 64 + (20 + (o.size : Int)) / 4 := u8i _ (by omega)
  have b1 := Sp.bt_bd (⟨#[UInt8.ofNat (64 + (20 + (o.size : Int)) / 4).toNat, UInt8.ofNat tos.toNat]⟩ : ByteArray) (0 + 1)
  omega
theorem ext_front (a b : ByteArray) (n : Nat) (h : n = a.size) : (a ++ b).extract 0 n = a := by subst h; exact Sp.extract_append_left a b
theorem ext_mid (a b c : ByteArray) (m n : Nat) (hm : m = a.size) (hn : n = a.size + b.size) : (a ++ (b ++ c)).extract m n = b := by
  subst hm hn
  apply ba_ext
  rw [Sp.extract_toList, Sp.append_toList, Sp.append_toList, List.take_append, Sp.size_toList, show a.size + b.size - a.size = b.size by omega, List.take_of_length_le (by rw [Sp.size_toList]; omega), List.drop_append, Sp.size_toList, Nat.sub_self, List.drop_of_length_le (by rw [Sp.size_toList]; exact Nat.le_refl _), List.nil_append, List.drop_zero, List.take_append_of_le_length (by rw [Sp.size_toList]; exact Nat.le_refl _), List.take_of_length_le (by rw [Sp.size_toList]; exact Nat.le_refl _)]
/-- Passed on, whatever stands behind it. -/
theorem pass_own (tos id : Int) (hold more : Bool) (at_ proto fr tt : Int) (o d r : ByteArray) (j : Int) (htos : 0 ≤ tos ∧ tos ≤ 255) (hid : 0 ≤ id ∧ id ≤ 65535) (hat : -9223372036854775808 ≤ at_ ∧ at_ ≤ 9223372036854775807) (hproto : 0 ≤ proto ∧ proto ≤ 255) (hfr : 0 ≤ fr ∧ fr ≤ 4294967295) (htt : 0 ≤ tt ∧ tt ≤ 4294967295) (he : enc10e more at_ o d = 0) (hj : 0 ≤ j ∧ j ≤ 255) :
    pass10e (R10 tos id hold more at_ proto fr tt o d j ++ r) = (if j < 2 then 9 else 0) ∧ pass10 (R10 tos id hold more at_ proto fr tt o d j ++ r) = if j < 2 then ⟨#[]⟩ else R10 tos id hold more at_ proto fr tt o d (j - 1) := by
  obtain ⟨hm, hwh, hf⟩ := enc10_ok he
  have hmb := may10_bd hm
  have hfb := of_decide_eq_true hf
  obtain ⟨a1, a2, a3⟩ := own10 tos id hold more at_ j proto fr tt o d r htos hid hat hj hproto hfr htt he
  have SP := says10 tos id hold more at_ j proto fr tt o (d ++ r) d.size htos hid (by omega) hj hproto hfr htt hmb.2.2.2.1 (by omega)
  have hS : R10 tos id hold more at_ proto fr tt o d j ++ r = header10 tos id hold more at_ j proto fr tt o d.size ++ (d ++ r) := app_assoc _ _ _
  rw [hS]
  have hhl := SP.hl hmb.2.2.2.1 hmb.2.2.2.2
  have e8 : bAt (header10 tos id hold more at_ j proto fr tt o d.size ++ (d ++ r)) (Int.toNat 8) = j := SP.httl
  have e9 := SP.hproto
  have hz := SP.size
  have pe : pass10e (header10 tos id hold more at_ j proto fr tt o d.size ++ (d ++ r)) = if j < 2 then 9 else 0 := by unfold pass10e; rw [if_pos a1, e8]
  refine ⟨pe, ?_⟩
  unfold pass10
  rw [pe]
  by_cases c : j < 2
  · rw [if_pos c, if_pos c]; rfl
  rw [if_neg c, if_neg c, if_pos rfl]
  have q8 : n2 (header10 tos id hold more at_ j proto fr tt o d.size ++ (d ++ r)) 8 = 256 * j + proto := by
    rw [n2_b _ _ (by omega) (by omega)]
    have : bAt (header10 tos id hold more at_ j proto fr tt o d.size ++ (d ++ r)) ((8 : Int) + 1).toNat = proto := e9
    rw [this]
    have : bAt (header10 tos id hold more at_ j proto fr tt o d.size ++ (d ++ r)) (8 : Int).toNat = j := e8
    rw [this]
  have hsb := sum10_bd (front10 tos id hold more at_ j proto (20 + o.size) d.size) (back10 fr tt o)
  have hsp : header10 tos id hold more at_ j proto fr tt o d.size ++ (d ++ r) = front10 tos id hold more at_ j proto (20 + o.size) d.size ++ (Sp.ofB (sum10 (front10 tos id hold more at_ j proto (20 + o.size) d.size) (back10 fr tt o)) 2 ++ (back10 fr tt o ++ (d ++ r))) := by
    unfold header10; simp only [app_assoc]
  have hf10 := front10_size tos id hold more at_ j proto (20 + o.size) d.size
  have q10 : n2 (header10 tos id hold more at_ j proto fr tt o d.size ++ (d ++ r)) 10 = sum10 (front10 tos id hold more at_ j proto (20 + o.size) d.size) (back10 fr tt o) := by
    rw [n2_b _ _ (by omega) (by omega), hsp, bAt_bt, bAt_bt]
    have r1 := Sp.bt_append_right (front10 tos id hold more at_ j proto (20 + o.size) d.size) (Sp.ofB (sum10 (front10 tos id hold more at_ j proto (20 + o.size) d.size) (back10 fr tt o)) 2 ++ (back10 fr tt o ++ (d ++ r))) 0
    have r2 := Sp.bt_append_right (front10 tos id hold more at_ j proto (20 + o.size) d.size) (Sp.ofB (sum10 (front10 tos id hold more at_ j proto (20 + o.size) d.size) (back10 fr tt o)) 2 ++ (back10 fr tt o ++ (d ++ r))) 1
    rw [hf10] at r1 r2
    rw [show (10 : Int).toNat = 10 + 0 from rfl, show ((10 : Int) + 1).toNat = 10 + 1 from rfl, r1, r2, Sp.bt_append_left _ _ _ (by rw [Sp.ofB_size]; omega), Sp.bt_append_left _ _ _ (by rw [Sp.ofB_size]; omega)]
    generalize sum10 (front10 tos id hold more at_ j proto (20 + o.size) d.size) (back10 fr tt o) = c at *
    rw [← bAt_bt, ← bAt_bt, bAt_list (ofB2_list c), bAt_list (ofB2_list c)]
    simp only [List.getElem?_cons_zero, List.getElem?_cons_succ, Option.getD_some, u8m]; omega
  have x0 : (header10 tos id hold more at_ j proto fr tt o d.size ++ (d ++ r)).extract (Int.toNat 0) (Int.toNat 8) = F8 tos id hold more at_ (20 + o.size) d.size := by
    rw [hsp, front10_F8, app_assoc]; exact ext_front _ _ _ (F8_size ..).symm
  have eo : ((header10 tos id hold more at_ j proto fr tt o d.size ++ (d ++ r)).extract (Int.toNat 20) (hl10 (header10 tos id hold more at_ j proto fr tt o d.size ++ (d ++ r))).toNat).size = o.size := by
    rw [hhl, ByteArray.size_extract, show Int.toNat 20 = 20 from rfl]; omega
  have hb10 : (back10 fr tt o).size = 8 + o.size := by unfold back10; simp only [ByteArray.size_append, Sp.ofB_size]
  have x12 : (header10 tos id hold more at_ j proto fr tt o d.size ++ (d ++ r)).extract (Int.toNat 12) (20 + (o.size : Int)).toNat = back10 fr tt o := by
    rw [hsp, ← app_assoc]
    exact ext_mid _ _ _ _ _ (by rw [ByteArray.size_append, hf10, Sp.ofB_size]; rfl) (by rw [ByteArray.size_append, hf10, Sp.ofB_size, hb10]; omega)
  have xd : (header10 tos id hold more at_ j proto fr tt o d.size ++ (d ++ r)).extract (hl10 (header10 tos id hold more at_ j proto fr tt o d.size ++ (d ++ r))).toNat (n2 (header10 tos id hold more at_ j proto fr tt o d.size ++ (d ++ r)) 2).toNat = d := by
    rw [hhl, SP.all]
    exact ext_mid _ _ _ _ _ (by rw [header10_size]; omega) (by rw [header10_size]; omega)
  unfold passB
  rw [eo, x0, x12, xd, q8, q10, front10_F8, sum_turned _ _ j proto (by rw [F8_size]) (F8_ne _ _ _ _ _ _ _ hmb.2.2.2.1) (by omega) hproto (by omega), show 256 * j + proto - 256 = 256 * (j - 1) + proto by omega, two_ofB _ _ (by omega) hproto]
  unfold R10 header10
  rw [front10_F8]
/-- A head in which one byte is another one. -/
theorem told10 {s : ByteArray} {tos id : Int} {hold more : Bool} {at_ ttl proto fr tt : Int} {o r : ByteArray} {dl : Int} (h : Says10 s tos id hold more at_ ttl proto fr tt o r dl) (ho : (o.size : Int) ≤ 40) (ho4 : (o.size : Int) % 4 = 0) (k : Nat) (hk : k < 20 + o.size) (v : Int) (hv : 0 ≤ v ∧ v ≤ 255) (hne : v ≠ bAt s k) :
    dec10e (setB s k v) ≠ 0 ∨ (k = 0 ∧ ∀ (a b : Int) (x y : Bool) (c e f g i : Int) (z : ByteArray), dec10 (setB s k v) = hdr a b x y c e f g i z → z.size ≠ o.size) := by
  by_cases he : dec10e (setB s k v) = 0
  · right
    have hz := h.size
    have hks : k < s.size := by omega
    have hbt := bt_setB' s k v hv hks
    obtain ⟨z1, z2, z3, z4⟩ := dec10_sizes _ he
    have hver : bAt (setB s k v) (Int.toNat 0) / 16 = 4 := by
      unfold dec10e at he
      repeat' split at he
      all_goals first | (exfalso; omega) | omega
    have hsum : Sp.sumB ((setB s k v).extract (Int.toNat 0) (hl10 (setB s k v)).toNat) = 65535 := by
      unfold dec10e at he
      repeat' split at he
      all_goals first | (exfalso; omega) | omega
    by_cases hk0 : k = 0
    · refine ⟨hk0, fun a b x y c e f g i z hq hzo => ?_⟩
      unfold dec10 at hq
      rw [if_pos he] at hq
      simp only [hdr, List.cons.injEq, SV.int.injEq, SV.str.injEq, SV.bool.injEq, true_and, and_true] at hq
      have hzz := hq.2.2.2.2.2.2.2.2.2
      rw [← hzz, ByteArray.size_extract, show Int.toNat 20 = 20 from rfl] at hzo
      have b0 : bAt (setB s k v) (Int.toNat 0) = v := by rw [bAt_bt, hbt, if_pos (by rw [hk0]; rfl)]
      have b0' : bAt s k = 64 + (20 + (o.size : Int)) / 4 := by rw [hk0]; exact h.b0
      have hl : hl10 (setB s k v) = 4 * (v % 16) := by unfold hl10; rw [b0]
      omega
    · exfalso
      have b0 : bAt (setB s k v) (Int.toNat 0) = bAt s (Int.toNat 0) := by rw [bAt_bt, hbt, if_neg (fun e => hk0 e.symm), bAt_bt]
      have hl : hl10 (setB s k v) = 20 + o.size := by unfold hl10; rw [b0]; exact h.hl ho ho4
      have hn : (hl10 (setB s k v)).toNat = 20 + o.size := by omega
      rw [hn, show Int.toNat 0 = 0 from rfl] at hsum
      have e1 : Sp.sumB (s.extract 0 (20 + o.size)) = 65535 := by rw [h.hh]; exact header10_sum _ _ _ _ _ _ _ _ _ _ _ ho
      have out : ∀ (t : ByteArray) (n i : Nat), n ≤ i → Sp.bt (t.extract 0 n) i = 0 := fun t n i hi => by
        unfold Sp.bt
        rw [List.getD_eq_getElem?_getD, List.getElem?_eq_none (by rw [Sp.size_toList, ByteArray.size_extract]; omega)]; rfl
      have := Sp.sum_told (s.extract 0 (20 + o.size)) ((setB s k v).extract 0 (20 + o.size)) k v (fun i => by
        by_cases c : i < 20 + o.size
        · rw [Sp.bt_extract _ _ _ _ (by omega), Sp.bt_extract _ _ _ _ (by omega), Nat.zero_add, hbt]
        · rw [out _ _ _ (by omega), out _ _ _ (by omega), if_neg (by omega)]) (by rw [ByteArray.size_extract]; omega) (by rw [ByteArray.size_extract, ByteArray.size_extract, setB_size]) ⟨hv.1, by omega⟩ e1 hsum
      rw [Sp.bt_extract _ _ _ _ (by omega), Nat.zero_add] at this
      exact hne (by rw [this, bAt_bt])
  · exact .inl he
end G2
end Go.Proofs.Ytnmeeafnobfobaa.VM
