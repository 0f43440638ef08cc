/- law 15: which datagrams are read, the plain law. -/
import Derived.Test.YtlpeefemffmpmaaUdpJ
import Derived.Test.YtlpeefemffmpmaaSumP
namespace Go.Proofs.Ytlpeefemffmpmaa
open Go.RowKit
set_option linter.unusedVariables false
namespace Sp
theorem u2_word (s : ByteArray) (k : Nat) (h : k + 2 ≤ s.size) : u2 s k = word s k := by
  have hz := size_toList s
  unfold u2 textS textOk
  rw [if_pos (by simp; omega), extract_toList, show ((k : Int)).toNat = k by omega, show ((k : Int) + 2).toNat = k + 2 by omega, drop_take2 _ _ (by omega)]
  exact num2 _ _
theorem word_left (a b : ByteArray) (k : Nat) (h : k + 2 ≤ a.size) : word (a ++ b) k = word a k := by
  unfold word; rw [bt_append_left _ _ _ (by omega), bt_append_left _ _ _ (by omega)]
theorem word_right (a b : ByteArray) (k : Nat) : word (a ++ b) (a.size + k) = word b k := by
  unfold word; rw [bt_append_right, show a.size + k + 1 = a.size + (k + 1) by omega, bt_append_right]
theorem extract_whole (s : ByteArray) (n : Nat) (h : s.size ≤ n) : s.extract 0 n = s := by
  apply ba_toList; rw [extract_toList, List.drop_zero, List.take_of_length_le (by rw [size_toList]; exact h)]
theorem extract_back (a b : ByteArray) (m n : Nat) (hm : m = a.size) (hn : a.size + b.size ≤ n) : (a ++ b).extract m n = b := by
  subst hm
  apply ba_toList
  rw [extract_toList, append_toList, List.take_of_length_le (by rw [List.length_append, size_toList, size_toList]; exact hn), ← size_toList a, List.drop_left]
theorem extract_fore (a b : ByteArray) (n : Nat) (hn : n ≤ a.size) : (a ++ b).extract 0 n = a.extract 0 n := by
  apply ba_toList
  rw [extract_toList, extract_toList, append_toList, List.take_append_of_le_length (by rw [size_toList]; exact hn)]
theorem udpSum_bd (x y p q : Int) (d : ByteArray) : 0 < udpSum x y p q d ∧ udpSum x y p q d ≤ 65535 := by
  have := udpSum0_bd x y p q d
  unfold udpSum; split <;> omega
theorem udpB_size (x y p q : Int) (d : ByteArray) : (udpB x y p q d).size = 8 + d.size := by
  unfold udpB; rw [ByteArray.size_append, ByteArray.size_append, udpFront_size, ofB_size]
section
variable {x y p q : Int} {d : ByteArray}
theorem word_B0 (hp : 0 ≤ p ∧ p ≤ 65535) : word (udpB x y p q d) 0 = p := by
  have h2 := ofB_size
  unfold udpB udpFront
  rw [word_left _ _ _ (by simp [h2]), word_left _ _ _ (by simp [h2]), word_left _ _ _ (by simp [h2]), word_left _ _ _ (by simp [h2]), word_ofB _ hp.1 hp.2]
theorem word_B2 (hq : 0 ≤ q ∧ q ≤ 65535) : word (udpB x y p q d) 2 = q := by
  have h2 := ofB_size
  unfold udpB udpFront
  rw [word_left _ _ _ (by simp [h2]), word_left _ _ _ (by simp [h2]), word_left _ _ _ (by simp [h2])]
  have := word_right (ofB p 2) (ofB q 2) 0
  rw [h2] at this
  rw [this, word_ofB _ hq.1 hq.2]
theorem word_B4 (hd : d.size ≤ 65507) : word (udpB x y p q d) 4 = 8 + d.size := by
  have h2 := ofB_size
  unfold udpB udpFront
  rw [word_left _ _ _ (by simp [h2]), word_left _ _ _ (by simp [h2])]
  have := word_right (ofB p 2 ++ ofB q 2) (ofB (8 + d.size) 2) 0
  rw [ByteArray.size_append, h2, h2] at this
  rw [this, word_ofB _ (by omega) (by omega)]
theorem word_B6 : word (udpB x y p q d) 6 = udpSum x y p q d := by
  have h2 := ofB_size
  have hc := udpSum_bd x y p q d
  unfold udpB
  rw [word_left _ _ _ (by simp [h2, udpFront_size])]
  have := word_right (udpFront p q (8 + d.size)) (ofB (udpSum x y p q d) 2) 0
  rw [udpFront_size] at this
  rw [this, word_ofB _ (by omega) hc.2]
theorem data_B (n : Nat) (h : 8 + d.size ≤ n) : (udpB x y p q d).extract 8 n = d := by
  unfold udpB
  exact extract_back _ _ _ _ (by rw [ByteArray.size_append, udpFront_size, ofB_size]) (by rw [ByteArray.size_append, udpFront_size, ofB_size]; exact h)
end
/-- An address's two words. -/
def hs (x : Int) : Int := x / 65536 + x % 65536
theorem ofB4 (x : Int) (h : 0 ≤ x) (h2 : x < 4294967296) : ofB x 4 = ofB (x / 65536) 2 ++ ofB (x % 65536) 2 := by
  have e0 : x / 2 ^ (8 * 3) % 256 = x / 65536 / 2 ^ (8 * 1) % 256 := by omega
  have e1 : x / 2 ^ (8 * 2) % 256 = x / 65536 / 2 ^ (8 * 0) % 256 := by omega
  have e2 : x / 2 ^ (8 * 1) % 256 = x % 65536 / 2 ^ (8 * 1) % 256 := by omega
  have e3 : x / 2 ^ (8 * 0) % 256 = x % 65536 / 2 ^ (8 * 0) % 256 := by omega
  apply ba_toList
  rw [append_toList]
  show ofL x 4 = ofL (x / 65536) 2 ++ ofL (x % 65536) 2
  simp only [ofL_succ, e0, e1, e2, e3]
  simp [ofL]
theorem sum4_mod (x : Int) (h : 0 ≤ x ∧ x ≤ 4294967295) : sumB (ofB x 4) % 65535 = hs x % 65535 := by
  rw [ofB4 x h.1 (by omega), sumB_mod_append _ _ (by rw [ofB_size]), sumB_ofB2 _ (by omega) (by omega), sumB_ofB2 _ (by omega) (by omega)]; rfl
theorem head_mod (x y n : Int) (hx : 0 ≤ x ∧ x ≤ 4294967295) (hy : 0 ≤ y ∧ y ≤ 4294967295) (hn : 0 ≤ n ∧ n ≤ 65535) : sumB (headB x y 17 n) % 65535 = (hs x + hs y + 17 + n) % 65535 := by
  unfold headB
  have h2 := ofB_size
  have a1 := sumB_mod_append (ofB x 4 ++ ofB y 4 ++ ofB 17 2) (ofB n 2) (by simp [h2])
  have a2 := sumB_mod_append (ofB x 4 ++ ofB y 4) (ofB 17 2) (by simp [h2])
  have a3 := sumB_mod_append (ofB x 4) (ofB y 4) (by simp [h2])
  have b1 := sum4_mod x hx
  have b2 := sum4_mod y hy
  rw [sumB_ofB2 _ hn.1 hn.2] at a1
  rw [sumB_ofB2 _ (by omega) (by omega)] at a2
  omega
theorem front_mod (p q n : Int) (hp : 0 ≤ p ∧ p ≤ 65535) (hq : 0 ≤ q ∧ q ≤ 65535) (hn : 0 ≤ n ∧ n ≤ 65535) : sumB (udpFront p q n) % 65535 = (p + q + n) % 65535 := by
  unfold udpFront
  have h2 := ofB_size
  have a1 := sumB_mod_append (ofB p 2 ++ ofB q 2) (ofB n 2) (by simp [h2])
  have a2 := sumB_mod_append (ofB p 2) (ofB q 2) (by simp [h2])
  rw [sumB_ofB2 _ hn.1 hn.2] at a1
  rw [sumB_ofB2 _ hp.1 hp.2, sumB_ofB2 _ hq.1 hq.2] at a2
  omega
section
variable {x y p q : Int} {d : ByteArray}
theorem sum_B (hp : 0 ≤ p ∧ p ≤ 65535) (hq : 0 ≤ q ∧ q ≤ 65535) (hd : d.size ≤ 65507) : sumB (udpB x y p q d) % 65535 = (p + q + (8 + d.size) + udpSum x y p q d + sumB d) % 65535 ∧ sumB (udpB x y p q d) ≠ 0 := by
  have h2 := ofB_size
  have hc := udpSum_bd x y p q d
  unfold udpB
  have a1 := sumB_mod_append (udpFront p q (8 + d.size) ++ ofB (udpSum x y p q d) 2) d (by simp [h2, udpFront_size])
  have a2 := sumB_mod_append (udpFront p q (8 + d.size)) (ofB (udpSum x y p q d) 2) (by simp [udpFront_size])
  have a3 := front_mod p q (8 + d.size) hp hq (by omega)
  have z1 := sumB_zero_append (udpFront p q (8 + d.size) ++ ofB (udpSum x y p q d) 2) d (by simp [h2, udpFront_size])
  have z2 := sumB_zero_append (udpFront p q (8 + d.size)) (ofB (udpSum x y p q d) 2) (by simp [udpFront_size])
  rw [sumB_ofB2 _ (by omega) hc.2] at a2 z2
  constructor
  · omega
  · intro e
    have := (z2.1 (z1.1 e).1).2
    omega
theorem udpSum_mod (hx : 0 ≤ x ∧ x ≤ 4294967295) (hy : 0 ≤ y ∧ y ≤ 4294967295) (hp : 0 ≤ p ∧ p ≤ 65535) (hq : 0 ≤ q ∧ q ≤ 65535) (hd : d.size ≤ 65507) :
    (udpSum x y p q d + (hs x + hs y + 17 + (8 + d.size) + (p + q + (8 + d.size)) + sumB d)) % 65535 = 0 := by
  have h2 := ofB_size
  have a1 := sumB_mod_append (headB x y 17 (8 + d.size)) (udpFront p q (8 + d.size) ++ (⟨#[0, 0]⟩ ++ d)) (by simp [headB_size])
  have a2 := sumB_mod_append (udpFront p q (8 + d.size)) (⟨#[0, 0]⟩ ++ d) (by simp [udpFront_size])
  have a3 := sumB_mod_append ⟨#[0, 0]⟩ d rfl
  have a4 := front_mod p q (8 + d.size) hp hq (by omega)
  have a5 := head_mod x y (8 + d.size) hx hy (by omega)
  have a6 : sumB ⟨#[0, 0]⟩ = 0 := by decide +kernel
  have e : udpSum x y p q d % 65535 = udpSum0 x y p q d % 65535 := by unfold udpSum; split <;> omega
  unfold udpSum0 at e
  omega
/-- A datagram's sum, with whatever addresses. -/
theorem total_mod (f g : Int) (hx : 0 ≤ x ∧ x ≤ 4294967295) (hy : 0 ≤ y ∧ y ≤ 4294967295) (hp : 0 ≤ p ∧ p ≤ 65535) (hq : 0 ≤ q ∧ q ≤ 65535) (hd : d.size ≤ 65507) (hf : 0 ≤ f ∧ f ≤ 4294967295) (hg : 0 ≤ g ∧ g ≤ 4294967295) :
    sumB (headB f g 17 (8 + d.size) ++ udpB x y p q d) = 65535 ↔ (hs f + hs g - hs x - hs y) % 65535 = 0 := by
  have a1 := sumB_mod_append (headB f g 17 (8 + d.size)) (udpB x y p q d) (by simp [headB_size])
  have a2 := head_mod f g (8 + d.size) hf hg (by omega)
  have a3 := sum_B (x := x) (y := y) hp hq hd
  have a4 := udpSum_mod hx hy hp hq hd
  have z1 := sumB_zero_append (headB f g 17 (8 + d.size)) (udpB x y p q d) (by simp [headB_size])
  have z2 : sumB (headB f g 17 (8 + d.size) ++ udpB x y p q d) ≠ 0 := fun e => a3.2 (z1.1 e).2
  have b := sumB_bd (headB f g 17 (8 + d.size) ++ udpB x y p q d)
  have b2 := a3.1
  generalize sumB (headB f g 17 (8 + d.size) ++ udpB x y p q d) = T at *
  constructor
  · intro e; omega
  · intro e; omega
theorem udpE_own (f g : Int) (hx : 0 ≤ x ∧ x ≤ 4294967295) (hy : 0 ≤ y ∧ y ≤ 4294967295) (hp : 0 ≤ p ∧ p ≤ 65535) (hq : 0 ≤ q ∧ q ≤ 65535) (hd : d.size ≤ 65507) (hf : 0 ≤ f ∧ f ≤ 4294967295) (hg : 0 ≤ g ∧ g ≤ 4294967295) :
    udpE f g (udpB x y p q d) = 0 ↔ (hs f + hs g - hs x - hs y) % 65535 = 0 := by
  have hz := udpB_size x y p q d
  have e4 : u2 (udpB x y p q d) 4 = 8 + d.size := (u2_word _ 4 (by omega)).trans (word_B4 hd)
  have e6 : u2 (udpB x y p q d) 6 = udpSum x y p q d := (u2_word _ 6 (by omega)).trans word_B6
  have hc := udpSum_bd x y p q d
  have ht := total_mod f g hx hy hp hq hd hf hg
  unfold udpE udpR
  rw [e4, e6, hz, extract_whole _ _ (by omega), if_neg (by omega), if_neg (by omega), if_neg (by omega), if_neg (by omega), if_neg (by omega), ← ht]
  constructor
  · intro h
    split at h
    · assumption
    · omega
  · intro h; rw [if_pos h]
end
/-! a byte that is another one -/
theorem refN_mod (s : ByteArray) (k : Nat) : refN s (k + 1) % 65535 = (refN s k + (if k % 2 = 0 then 256 * bt s k else bt s k)) % 65535 := by
  rw [refN_succ]; split <;> split <;> omega
theorem refN_set (s t : ByteArray) (k : Nat) (b : Int) (h : ∀ i, bt t i = if i = k then b else bt s i) : ∀ j, refN t j % 65535 = (refN s j + (if k < j then (if k % 2 = 0 then 256 * (b - bt s k) else b - bt s k) else 0)) % 65535
  | 0 => by simp [refN]
  | j + 1 => by
    have ih := refN_set s t k b h j
    have a1 := refN_mod t j
    have a2 := refN_mod s j
    rw [h j] at a1
    by_cases e : j = k
    · subst e
      rw [if_pos rfl] at a1
      rw [if_neg (by omega)] at ih
      rw [if_pos (by omega)]
      split at a1 <;> split at a2 <;> simp only [*, if_true, if_false] <;> omega
    · rw [if_neg e] at a1
      by_cases e2 : k < j
      · rw [if_pos e2] at ih; rw [if_pos (by omega)]; omega
      · rw [if_neg e2] at ih; rw [if_neg (by omega)]; omega
theorem sumB_set (s t : ByteArray) (k : Nat) (b : Int) (h : ∀ i, bt t i = if i = k then b else bt s i) (hk : k < s.size) (hz : t.size = s.size) : sumB t % 65535 = (sumB s + (if k % 2 = 0 then 256 * (b - bt s k) else b - bt s k)) % 65535 := by
  rw [← refN_sum, ← refN_sum, hz, refN_set s t k b h s.size, if_pos hk]
section
variable {x y p q : Int} {d : ByteArray}
theorem udpE_spoilt (t : ByteArray) (k : Nat) (b : Int) (hx : 0 ≤ x ∧ x ≤ 4294967295) (hy : 0 ≤ y ∧ y ≤ 4294967295) (hp : 0 ≤ p ∧ p ≤ 65535) (hq : 0 ≤ q ∧ q ≤ 65535) (hd : d.size ≤ 65507)
    (h : ∀ i, bt t i = if i = k then b else bt (udpB x y p q d) i) (hk : k < 8 + d.size) (hz : t.size = 8 + d.size) (hb : 0 ≤ b ∧ b < 256) (h4 : k ≠ 4) (h5 : k ≠ 5) (h6 : word t 6 ≠ 0) :
    udpE x y t = 0 ↔ b = bt (udpB x y p q d) k := by
  have hzB := udpB_size x y p q d
  have e4 : u2 t 4 = 8 + d.size := by
    refine (u2_word _ 4 (by omega)).trans ?_
    rw [← word_B4 (x := x) (y := y) (p := p) (q := q) hd]
    unfold word
    rw [h 4, h (4 + 1), if_neg (by omega), if_neg (by omega)]
  have e6 : u2 t 6 = word t 6 := u2_word _ 6 (by omega)
  have b6 := word_bd t 6
  have hT := (total_mod (d := d) x y hx hy hp hq hd hx hy).2 (by omega)
  have s1 := sumB_set _ t k b h (by omega) (by omega)
  have a1 := sumB_mod_append (headB x y 17 (8 + d.size)) (udpB x y p q d) (by simp [headB_size])
  have a2 := sumB_mod_append (headB x y 17 (8 + d.size)) t (by simp [headB_size])
  have c1 := bt_bd (udpB x y p q d) k
  have hbd := sumB_bd (headB x y 17 (8 + d.size) ++ t)
  have z1 := sumB_zero_append (headB x y 17 (8 + d.size)) t (by simp [headB_size])
  unfold udpE udpR
  rw [e4, e6, hz, extract_whole _ _ (by omega), if_neg (by omega), if_neg (by omega), if_neg (by omega), if_neg (by omega), if_neg h6]
  have hh : sumB (headB x y 17 (8 + d.size)) ≠ 0 := by
    intro e
    have k1 : sumB (headB x y 17 (8 + d.size)) = addStep (sumB (ofB x 4 ++ ofB y 4 ++ ofB 17 2)) (sumB (ofB (8 + d.size) 2)) := sumB_append _ _ (by simp [ofB_size])
    rw [k1, addStep_zero _ _ (sumB_bd _).1 (sumB_bd _).1, sumB_ofB2 _ (by omega) (by omega)] at e
    omega
  have hne : sumB (headB x y 17 (8 + d.size) ++ t) ≠ 0 := fun e => hh (z1.1 e).1
  rw [hT] at a1
  constructor
  · intro e
    split at e
    · rename_i e1
      rw [e1] at a2
      split at s1 <;> omega
    · omega
  · intro e
    rw [if_pos]
    split at s1 <;> omega
end
end Sp
end Go.Proofs.Ytlpeefemffmpmaa
