/- law 14, plain: what a message's bytes say. -/
import Derived.Test.YtnmeeafnobfobaaV14b
import Derived.Test.YtnmeeafnobfobaaP10
namespace Go.Proofs.Ytnmeeafnobfobaa.VM
namespace G2
open Go.RowKit
set_option linter.unusedVariables false
set_option linter.unusedSimpArgs false
theorem sum_put0 (F B : ByteArray) (c : Int) (hF : F.size % 2 = 0) (hc : 65535 - Sp.sumB (F ++ B) = c) : Sp.sumB (F ++ (Sp.ofB c 2 ++ B)) = 65535 := by
  have bd := Sp.sumB_bd (F ++ B)
  have e2 := Sp.sumB_mod_append F B hF
  have f2 := Sp.sumB_mod_append F (Sp.ofB c 2 ++ B) hF
  have f3 := Sp.sumB_mod_append (Sp.ofB c 2) B (by simp [Sp.ofB_size])
  rw [Sp.sumB_ofB2 c (by omega) (by omega)] at f3
  have ne : Sp.sumB (F ++ (Sp.ofB c 2 ++ B)) ≠ 0 := fun h => by
    have h1 := (Sp.sumB_zero_append _ _ hF).1 h
    have h2 := (Sp.sumB_zero_append _ _ (by simp [Sp.ofB_size])).1 h1.2
    rw [Sp.sumB_ofB2 c (by omega) (by omega)] at h2
    have h3 := (Sp.sumB_zero_append F B hF).2 ⟨h1.1, h2.2⟩
    omega
  have bd2 := Sp.sumB_bd (F ++ (Sp.ofB c 2 ++ B))
  omega
theorem raw14_size (ty co w : Int) (d : ByteArray) : (raw14 ty co w d).size = 8 + d.size := by
  unfold raw14; simp only [ByteArray.size_append, size_lit, Sp.ofB_size, List.size_toArray, List.length_cons, List.length_nil]; omega
theorem raw14_sum (ty co w : Int) (d : ByteArray) : Sp.sumB (raw14 ty co w d) = 65535 := by
  unfold raw14
  rw [app_assoc]
  exact sum_put0 _ _ _ (by simp [size_lit]) rfl
theorem raw14_list (ty co w : Int) (d : ByteArray) : ∃ c1 c2, (raw14 ty co w d).data.toList = [UInt8.ofNat ty.toNat, UInt8.ofNat co.toNat, c1, c2, UInt8.ofNat (w / 16777216 % 256).toNat, UInt8.ofNat (w / 65536 % 256).toNat, UInt8.ofNat (w / 256 % 256).toNat, UInt8.ofNat (w % 256).toNat] ++ d.data.toList := by
  unfold raw14
  generalize hc : (65535 - Sp.sumB _ : Int) = c
  clear hc
  refine ⟨UInt8.ofNat (c / 256 % 256).toNat, UInt8.ofNat (c % 256).toNat, ?_⟩
  simp only [Sp.append_toList, ofB2_list, ofB4_list, List.cons_append, List.nil_append, List.append_assoc]
theorem own14 (ty co w : Int) (d : ByteArray) (hty : 0 ≤ ty ∧ ty ≤ 255) (hco : 0 ≤ co ∧ co ≤ 255) (hw : 0 ≤ w ∧ w ≤ 4294967295) : dec14e (raw14 ty co w d) = 0 ∧ dec14 (raw14 ty co w d) = msg ty co w d := by
  have hz := raw14_size ty co w d
  obtain ⟨c1, c2, hL⟩ := raw14_list ty co w d
  have e0 : dec14e (raw14 ty co w d) = 0 := by
    unfold dec14e
    rw [if_neg (by omega), if_neg (by rw [raw14_sum]; simp)]
  refine ⟨e0, ?_⟩
  have b0 : bAt (raw14 ty co w d) (Int.toNat 0) = ty := by
    rw [bAt_list hL]
    simp only [show Int.toNat 0 = 0 from rfl, List.cons_append, List.getElem?_cons_zero, List.getElem?_cons_succ, Option.getD_some]; exact u8i _ hty
  have b1 : bAt (raw14 ty co w d) (Int.toNat 1) = co := by
    rw [bAt_list hL]
    simp only [show Int.toNat 1 = 1 from rfl, List.cons_append, List.getElem?_cons_zero, List.getElem?_cons_succ, Option.getD_some]; exact u8i _ hco
  have b4 : n4 (raw14 ty co w d) 4 = w := by
    rw [n4_b _ _ (by omega) (by omega), bAt_list hL, bAt_list hL, bAt_list hL, bAt_list hL]
    simp only [show (4 : Int).toNat = 4 from rfl, show ((4 : Int) + 1).toNat = 5 from rfl, show ((4 : Int) + (1 + 1)).toNat = 6 from rfl, show ((4 : Int) + (1 + 1 + 1)).toNat = 7 from rfl, List.cons_append, List.getElem?_cons_zero, List.getElem?_cons_succ, Option.getD_some, u8m]; omega
  have b8 : (raw14 ty co w d).extract (Int.toNat 8) (raw14 ty co w d).size = d := by
    apply ba_ext
    rw [Sp.extract_toList, List.take_of_length_le (by rw [Sp.size_toList]; exact Nat.le_refl _), hL]
    rfl
  unfold dec14
  rw [if_pos e0, b0, b1, b4, b8]
theorem raw14_same (ty co w : Int) (d : ByteArray) (ty1 co1 w1 : Int) (d1 : ByteArray) (hty : 0 ≤ ty ∧ ty ≤ 255) (hco : 0 ≤ co ∧ co ≤ 255) (hw : 0 ≤ w ∧ w ≤ 4294967295) (hty1 : 0 ≤ ty1 ∧ ty1 ≤ 255) (hco1 : 0 ≤ co1 ∧ co1 ≤ 255) (hw1 : 0 ≤ w1 ∧ w1 ≤ 4294967295) :
    ((raw14 ty co w d).toList == (raw14 ty1 co1 w1 d1).toList) = ((ty == ty1) && ((co == co1) && ((w == w1) && ((d.toList == d1.toList) && true)))) := by
  have h := (own14 ty co w d hty hco hw).2
  have h1 := (own14 ty1 co1 w1 d1 hty1 hco1 hw1).2
  rw [Bool.eq_iff_iff]
  simp only [Bool.and_eq_true, beq_iff_eq, and_true, true_and, ByteArray.toList_eq]
  constructor
  · intro e
    have e' := ba_ext e
    rw [e', h1] at h
    simp only [msg, List.cons.injEq, SV.int.injEq, SV.str.injEq, and_true, true_and] at h
    obtain ⟨h_t, h_c, h_w, h_d⟩ := h
    subst h_t h_c h_w h_d
    simp
  · rintro ⟨rfl, rfl, rfl, e⟩
    rw [ba_ext e]
/-- A message with another byte is told. -/
theorem told14 (T : ByteArray) (k : Nat) (v : Int) (hT : Sp.sumB T = 65535) (hz : 8 ≤ T.size) (hk : k < T.size) (hv : 0 ≤ v ∧ v ≤ 255) (hne : v ≠ bAt T k) : dec14e (setB T k v) = 101 ∧ dec14 (setB T k v) = msg 0 0 0 ⟨#[]⟩ := by
  have e : dec14e (setB T k v) = 101 := by
    unfold dec14e
    rw [setB_size, if_neg (by omega), if_pos]
    intro h
    have := Sp.sum_told T (setB T k v) k v (bt_setB' T k v hv hk) hk (setB_size ..) ⟨hv.1, by omega⟩ hT h
    exact hne (by rw [this, bAt_bt])
  exact ⟨e, by unfold dec14; rw [e, if_neg (by decide)]⟩
/-- What was read is written as it was, but for its sum. -/
theorem again14 (s : ByteArray) (h : dec14e s = 0) (S : ByteArray) (hS : S = raw14 (bAt s (Int.toNat 0)) (bAt s (Int.toNat 1)) (n4 s 4) (s.extract (Int.toNat 8) s.size)) :
    S.size = s.size ∧ 8 ≤ s.size ∧ S.extract (Int.toNat 0) (Int.toNat 2) = s.extract (Int.toNat 0) (Int.toNat 2) ∧ S.extract (Int.toNat 4) s.size = s.extract (Int.toNat 4) s.size := by
  have h8 : 8 ≤ s.size := by
    unfold dec14e at h
    split at h
    · cases h
    · omega
  have hz := raw14_size (bAt s (Int.toNat 0)) (bAt s (Int.toNat 1)) (n4 s 4) (s.extract (Int.toNat 8) s.size)
  rw [← hS, ByteArray.size_extract] at hz
  have hz' : S.size = s.size := by rw [hz, show Int.toNat 8 = 8 from rfl]; omega
  obtain ⟨c1, c2, hL⟩ := raw14_list (bAt s (Int.toNat 0)) (bAt s (Int.toNat 1)) (n4 s 4) (s.extract (Int.toNat 8) s.size)
  rw [← hS] at hL
  obtain ⟨a0, a1, a2, a3, a4, a5, a6, a7, r, hs⟩ : ∃ a0 a1 a2 a3 a4 a5 a6 a7 r, s.data.toList = a0 :: a1 :: a2 :: a3 :: a4 :: a5 :: a6 :: a7 :: r := by
    have hl : 8 ≤ s.data.toList.length := by rw [Sp.size_toList]; exact h8
    match hq : s.data.toList with
    | a0 :: a1 :: a2 :: a3 :: a4 :: a5 :: a6 :: a7 :: r => exact ⟨_, _, _, _, _, _, _, _, _, rfl⟩
    | [] | [_] | [_, _] | [_, _, _] | [_, _, _, _] | [_, _, _, _, _] | [_, _, _, _, _, _] | [_, _, _, _, _, _, _] => rw [hq] at hl; simp at hl
  have q0 : bAt s (Int.toNat 0) = (a0.toNat : Int) := by rw [bAt_list hs]; rfl
  have q1 : bAt s (Int.toNat 1) = (a1.toNat : Int) := by rw [bAt_list hs]; rfl
  have q4 : n4 s 4 = 256 * (256 * (256 * (a4.toNat : Int) + a5.toNat) + a6.toNat) + a7.toNat := by
    rw [n4_b _ _ (by omega) (by omega), bAt_list hs, bAt_list hs, bAt_list hs, bAt_list hs]; rfl
  have u4 := a4.toNat_lt; have u5 := a5.toNat_lt; have u6 := a6.toNat_lt; have u7 := a7.toNat_lt
  have ub : ∀ a : UInt8, UInt8.ofNat a.toNat = a := fun a => by simp
  have uz : ∀ (z : Int) (a : UInt8), z = a.toNat → UInt8.ofNat z.toNat = a := fun z a h => by subst h; simp
  have x8 : (s.extract (Int.toNat 8) s.size).data.toList = r := by
    rw [Sp.extract_toList, List.take_of_length_le (by rw [Sp.size_toList]; exact Nat.le_refl _), hs]; rfl
  rw [x8, uz _ a0 q0, uz _ a1 q1, uz _ a4 (by rw [q4]; omega), uz _ a5 (by rw [q4]; omega), uz _ a6 (by rw [q4]; omega), uz _ a7 (by rw [q4]; omega)] at hL
  refine ⟨hz', h8, ?_, ?_⟩
  · apply ba_ext
    rw [Sp.extract_toList, Sp.extract_toList, hL, hs]; rfl
  · apply ba_ext
    rw [Sp.extract_toList, Sp.extract_toList, List.take_of_length_le (by rw [Sp.size_toList]; omega), List.take_of_length_le (by rw [Sp.size_toList]; exact Nat.le_refl _), hL, hs]; rfl
end G2
end Go.Proofs.Ytnmeeafnobfobaa.VM
