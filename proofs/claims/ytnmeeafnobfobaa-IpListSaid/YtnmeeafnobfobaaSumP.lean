/- Plain facts about the sum. -/
import Derived.Test.YtnmeeafnobfobaaSpec
namespace Go.Proofs.Ytnmeeafnobfobaa
open Go.RowKit
set_option linter.unusedVariables false
namespace Sp
theorem wd_append_left (s t : ByteArray) (k : Nat) (h : 2 * k + 2 ≤ s.size) : wd (s ++ t) k = wd s k := by
  have e : ∀ i, i < s.size → bt (s ++ t) i = bt s i := fun i hi => by
    unfold bt; rw [append_toList, List.getD_eq_getElem?_getD, List.getD_eq_getElem?_getD, List.getElem?_append_left (by rw [size_toList]; exact hi)]
  rw [wd_even s k h, wd_even (s ++ t) k (by rw [ByteArray.size_append]; omega), e _ (by omega), e _ (by omega)]
theorem bt_append_right (s t : ByteArray) (i : Nat) : bt (s ++ t) (s.size + i) = bt t i := by
  unfold bt; rw [append_toList, List.getD_eq_getElem?_getD, List.getD_eq_getElem?_getD, List.getElem?_append_right (by rw [size_toList]; omega), size_toList, show s.size + i - s.size = i by omega]
theorem wd_append_right (s t : ByteArray) (m k : Nat) (hm : s.size = 2 * m) (hk : 2 * k < t.size) : wd (s ++ t) (m + k) = wd t k := by
  have h0 := bt_append_right s t (2 * k)
  have h1 := bt_append_right s t (2 * k + 1)
  rw [hm] at h0 h1
  by_cases h : 2 * k + 2 ≤ t.size
  · rw [wd_even t k h, wd_even (s ++ t) (m + k) (by rw [ByteArray.size_append]; omega), show 2 * (m + k) = 2 * m + 2 * k by omega, h0, Nat.add_assoc, h1]
  · rw [wd_odd t k (by omega), wd_odd (s ++ t) (m + k) (by rw [ByteArray.size_append]; omega), show 2 * (m + k) = 2 * m + 2 * k by omega, h0]
theorem wds_append (s t : ByteArray) (m n : Nat) (hm : s.size = 2 * m) (hn : 2 * n ≤ t.size + 1) : wds (s ++ t) (m + n) = wds s m ++ wds t n := by
  have h1 : (List.range m).map (wdS (s ++ t)) = (List.range m).map (wdS s) := by
    apply List.map_congr_left
    intro k hk
    simp only [List.mem_range] at hk
    exact Subtype.ext (wd_append_left s t k (by omega))
  have h2 : ((List.range n).map (m + ·)).map (wdS (s ++ t)) = (List.range n).map (wdS t) := by
    rw [List.map_map]
    apply List.map_congr_left
    intro k hk
    simp only [List.mem_range] at hk
    exact Subtype.ext (wd_append_right s t m k hm (by omega))
  unfold wds
  rw [List.range_add, List.map_append, h1, h2]
/-- The sum, from a number on. -/
def sumFrom (a : Int) (l : List W16) : Int := l.foldl (fun n x => addStep n x.1) a
theorem addStep_eq (n x : Int) (h1 : 0 ≤ n) (h2 : n ≤ 65535) (h3 : 0 ≤ x) (h4 : x ≤ 65535) : addStep n x = if 65535 < n + x then n + x - 65535 else n + x := by
  unfold addStep; split <;> omega
theorem addStep_comm (n x : Int) : addStep n x = addStep x n := by unfold addStep; rw [Int.add_comm n x]
theorem addStep_assoc (a b c : Int) (a1 : 0 ≤ a) (a2 : a ≤ 65535) (b1 : 0 ≤ b) (b2 : b ≤ 65535) (c1 : 0 ≤ c) (c2 : c ≤ 65535) : addStep (addStep a b) c = addStep a (addStep b c) := by
  have h1 := addStep_bd a b a1 a2 b1 b2
  have h2 := addStep_bd b c b1 b2 c1 c2
  rw [addStep_eq _ c h1.1 h1.2 c1 c2, addStep_eq a _ a1 a2 h2.1 h2.2, addStep_eq a b a1 a2 b1 b2, addStep_eq b c b1 b2 c1 c2]
  (repeat' split) <;> omega
theorem addStep_zero_left (x : Int) (h3 : 0 ≤ x) (h4 : x ≤ 65535) : addStep 0 x = x := by unfold addStep; omega
theorem sumFrom_eq (l : List W16) : ∀ a, 0 ≤ a → a ≤ 65535 → sumFrom a l = addStep a (sumW l) := by
  induction l with
  | nil => intro a h1 h2; show a = addStep a 0; rw [addStep_comm, addStep_zero_left a h1 h2]
  | cons x l ih =>
    intro a h1 h2
    have hx := x.2
    have ha := addStep_bd a x.1 h1 h2 hx.1 hx.2
    have hz := addStep_bd 0 x.1 (by decide) (by decide) hx.1 hx.2
    have hl := sumW_bd l
    show sumFrom (addStep a x.1) l = addStep a (sumFrom (addStep 0 x.1) l)
    rw [ih _ ha.1 ha.2, ih _ hz.1 hz.2, addStep_zero_left _ hx.1 hx.2, addStep_assoc _ _ _ h1 h2 hx.1 hx.2 hl.1 hl.2]
theorem sumW_append (l m : List W16) : sumW (l ++ m) = addStep (sumW l) (sumW m) := by
  have h := sumW_bd l
  rw [← sumFrom_eq m _ h.1 h.2]
  simp [sumW, sumFrom]
/-- The sum of a text of even length, and of what stands behind it. -/
theorem sumB_append (s t : ByteArray) (h : s.size % 2 = 0) : sumB (s ++ t) = addStep (sumB s) (sumB t) := by
  unfold sumB
  rw [ByteArray.size_append, show (s.size + t.size + 1) / 2 = s.size / 2 + (t.size + 1) / 2 by omega, wds_append s t (s.size / 2) _ (by omega) (by omega), sumW_append, show (s.size + 1) / 2 = s.size / 2 by omega]
theorem sumB_ofB2 (x : Int) (h : 0 ≤ x) (h2 : x ≤ 65535) : sumB (ofB x 2) = x := by
  have hz := ofB_size x 2
  have hw := wd_even (ofB x 2) 0 (by omega)
  have e0 : bt (ofB x 2) 0 = x / 256 % 256 := by
    show (((ofL x 2).getD 0 0).toNat : Int) = _
    have := ofL_get x 2 0 (by rw [ofL_length]; omega)
    rw [List.getD_eq_getElem?_getD, List.getElem?_eq_getElem (by rw [ofL_length]; omega), Option.getD_some]
    simpa using this
  have e1 : bt (ofB x 2) 1 = x % 256 := by
    show (((ofL x 2).getD 1 0).toNat : Int) = _
    have := ofL_get x 2 1 (by rw [ofL_length]; omega)
    rw [List.getD_eq_getElem?_getD, List.getElem?_eq_getElem (by rw [ofL_length]; omega), Option.getD_some]
    simpa using this
  have e2 : wd (ofB x 2) 0 = x := by rw [hw, e0, e1]; omega
  unfold sumB
  rw [hz]
  show addStep 0 (wd (ofB x 2) 0) = x
  rw [e2, addStep_zero_left x h h2]
theorem rturn_eq (c a b : Int) (hc : 0 ≤ c) (hc2 : c ≤ 65535) (ha : 0 ≤ a) (ha2 : a ≤ 65535) (hb : 0 ≤ b) (hb2 : b ≤ 65535) :
    65535 - sumB (ofB (65535 - c) 2 ++ ofB (65535 - a) 2 ++ ofB b 2) = turnV c a b := by
  rw [sumB_append _ _ (by rw [ByteArray.size_append, ofB_size, ofB_size]), sumB_append _ _ (by rw [ofB_size]), sumB_ofB2 _ (by omega) (by omega), sumB_ofB2 _ (by omega) (by omega), sumB_ofB2 _ hb hb2]
  rfl
theorem extract_split (s : ByteArray) (i : Nat) (h : i ≤ s.size) : s.extract 0 i ++ s.extract i s.size = s := by
  apply ByteArray.ext; apply Array.ext'
  show (s.extract 0 i ++ s.extract i s.size).data.toList = s.data.toList
  rw [append_toList, extract_toList, extract_toList, List.drop_zero, ← size_toList s, List.take_length, List.take_append_drop]
theorem ba_toList {a b : ByteArray} (h : a.data.toList = b.data.toList) : a = b := by apply ByteArray.ext; exact Array.ext' h
theorem extract_append_left (a b : ByteArray) : (a ++ b).extract 0 a.size = a := by
  apply ba_toList; rw [extract_toList, append_toList, List.drop_zero, List.take_append_of_le_length (by rw [size_toList]; omega), ← size_toList a, List.take_length]
theorem extract_append_right (a b : ByteArray) : (a ++ b).extract a.size (a.size + b.size) = b := by
  apply ba_toList; rw [extract_toList, append_toList, List.take_of_length_le (by rw [List.length_append, size_toList, size_toList]; omega), List.drop_append_of_le_length (by rw [size_toList]; omega), List.drop_of_length_le (by rw [size_toList]; omega)]; rfl
theorem sumB_mod_append (s t : ByteArray) (h : s.size % 2 = 0) : sumB (s ++ t) % 65535 = (sumB s + sumB t) % 65535 := by rw [sumB_append s t h, addStep_mod]
theorem sumB_zero_append (s t : ByteArray) (h : s.size % 2 = 0) : sumB (s ++ t) = 0 ↔ sumB s = 0 ∧ sumB t = 0 := by
  rw [sumB_append s t h, addStep_zero _ _ (sumB_bd s).1 (sumB_bd t).1]
/-- The sum of a text in which a word stands at an even place. -/
theorem sumB_three (a b c : ByteArray) (ha : a.size % 2 = 0) (hb : b.size % 2 = 0) : sumB (a ++ b ++ c) = addStep (addStep (sumB a) (sumB b)) (sumB c) := by
  rw [sumB_append _ _ (by rw [ByteArray.size_append]; omega), sumB_append _ _ ha]
theorem right_put (s s1 s2 : ByteArray) (i m : Nat) (c : Int) (hs : s.size = 2 * m) (h1 : s.extract 0 i ++ ⟨#[0, 0]⟩ ++ s.extract (i + 2) s.size = s1) (hc : 65535 - sumB s1 = c)
    (h2 : s1.extract 0 i ++ ofB c 2 ++ s1.extract (i + 2) s1.size = s2) (hi : i % 2 = 0) (hi2 : i + 2 ≤ 2 * m) : (sumB s2 == 65535) = true := by
  have hz0 : (s.extract 0 i).size = i := by rw [ByteArray.size_extract]; omega
  have e1 : s1.extract 0 i = s.extract 0 i := by
    rw [← h1, ByteArray.append_assoc]
    have := extract_append_left (s.extract 0 i) (⟨#[0, 0]⟩ ++ s.extract (i + 2) s.size)
    rwa [hz0] at this
  have hz1 : s1.size = s.size := by rw [← h1, ByteArray.size_append, ByteArray.size_append, ByteArray.size_extract, ByteArray.size_extract]; show _ + 2 + _ = _; omega
  have e2 : s1.extract (i + 2) s1.size = s.extract (i + 2) s.size := by
    have hz : (s.extract 0 i ++ ⟨#[0, 0]⟩).size = i + 2 := by rw [ByteArray.size_append, hz0]; rfl
    have := extract_append_right (s.extract 0 i ++ ⟨#[0, 0]⟩) (s.extract (i + 2) s.size)
    rw [hz, h1] at this
    rw [← this, hz1]; congr 1
    rw [ByteArray.size_extract]; omega
  have b1 := sumB_bd (s.extract 0 i)
  have b2 := sumB_bd (s.extract (i + 2) s.size)
  have bs := sumB_bd s1
  have z : sumB ⟨#[0, 0]⟩ = 0 := by decide +kernel
  have f1 : sumB s1 = addStep (sumB (s.extract 0 i)) (sumB (s.extract (i + 2) s.size)) := by
    rw [← h1, sumB_three _ _ _ (by omega) (by decide), z, addStep_comm (sumB _) 0, addStep_zero_left _ b1.1 b1.2]
  have f2 : sumB s2 = addStep (addStep (sumB (s.extract 0 i)) c) (sumB (s.extract (i + 2) s.size)) := by
    rw [← h2, e1, e2, sumB_three _ _ _ (by omega) (by rw [ofB_size]), sumB_ofB2 c (by omega) (by omega)]
  have : sumB s2 = 65535 := by
    rw [f2, addStep_comm (sumB _) c, addStep_assoc c _ _ (by omega) (by omega) b1.1 b1.2 b2.1 b2.2, ← f1, ← hc]
    unfold addStep; omega
  simp [this]
/-- A word stands in the place of another one. -/
def repl (s : ByteArray) (i : Nat) (w : ByteArray) : ByteArray := s.extract 0 i ++ w ++ s.extract (i + 2) s.size
/-- The word at a place. -/
def word (s : ByteArray) (k : Nat) : Int := 256 * bt s k + bt s (k + 1)
theorem word_bd (s : ByteArray) (k : Nat) : 0 ≤ word s k ∧ word s k ≤ 65535 := by
  have h0 := bt_bd s k; have h1 := bt_bd s (k + 1); unfold word; omega
theorem repl_size (s : ByteArray) (i : Nat) (w : ByteArray) (hw : w.size = 2) (hi : i + 2 ≤ s.size) : (repl s i w).size = s.size := by
  unfold repl; rw [ByteArray.size_append, ByteArray.size_append, ByteArray.size_extract, ByteArray.size_extract]; omega
theorem bt_append_left (s t : ByteArray) (i : Nat) (hi : i < s.size) : bt (s ++ t) i = bt s i := by
  unfold bt; rw [append_toList, List.getD_eq_getElem?_getD, List.getD_eq_getElem?_getD, List.getElem?_append_left (by rw [size_toList]; exact hi)]
theorem bt_extract (s : ByteArray) (a b i : Nat) (h : a + i < b) : bt (s.extract a b) i = bt s (a + i) := by
  unfold bt; rw [extract_toList, List.getD_eq_getElem?_getD, List.getD_eq_getElem?_getD, List.getElem?_drop, List.getElem?_take_of_lt h]
theorem bt_repl (s : ByteArray) (i j : Nat) (w : ByteArray) (hw : w.size = 2) (hi : i + 2 ≤ s.size) (hj : j < s.size) :
    bt (repl s i w) j = if j < i then bt s j else if j < i + 2 then bt w (j - i) else bt s j := by
  have hz0 : (s.extract 0 i).size = i := by rw [ByteArray.size_extract]; omega
  have hz1 : (s.extract 0 i ++ w).size = i + 2 := by rw [ByteArray.size_append, hz0, hw]
  unfold repl
  by_cases h : j < i
  · rw [if_pos h, bt_append_left _ _ _ (by omega), bt_append_left _ _ _ (by omega), bt_extract _ _ _ _ (by omega), Nat.zero_add]
  · rw [if_neg h]
    by_cases h2 : j < i + 2
    · have := bt_append_right (s.extract 0 i) w (j - i)
      rw [hz0, show i + (j - i) = j by omega] at this
      rw [if_pos h2, bt_append_left _ _ _ (by omega), this]
    · have := bt_append_right (s.extract 0 i ++ w) (s.extract (i + 2) s.size) (j - (i + 2))
      rw [hz1, show i + 2 + (j - (i + 2)) = j by omega] at this
      rw [if_neg h2, this, bt_extract _ _ _ _ (by omega), show i + 2 + (j - (i + 2)) = j by omega]
theorem word_ofB (x : Int) (h : 0 ≤ x) (h2 : x ≤ 65535) : word (ofB x 2) 0 = x := by
  have hz := ofB_size x 2
  have := sumB_ofB2 x h h2
  have hw := wd_even (ofB x 2) 0 (by omega)
  have e : sumB (ofB x 2) = addStep 0 (wd (ofB x 2) 0) := by unfold sumB; rw [hz]; rfl
  have hb := wd_bd (ofB x 2) 0
  rw [addStep_zero_left _ hb.1 hb.2] at e
  show 256 * bt (ofB x 2) (2 * 0) + bt (ofB x 2) (2 * 0 + 1) = x
  rw [← hw, ← e, this]
theorem word_repl_at (s : ByteArray) (i : Nat) (x : Int) (h : 0 ≤ x) (h2 : x ≤ 65535) (hi : i + 2 ≤ s.size) : word (repl s i (ofB x 2)) i = x := by
  have hz := ofB_size x 2
  unfold word
  rw [bt_repl s i i _ hz hi (by omega), bt_repl s i (i + 1) _ hz hi (by omega), if_neg (by omega), if_pos (by omega), if_neg (by omega), if_pos (by omega)]
  rw [show i - i = 0 by omega, show i + 1 - i = 0 + 1 by omega]
  exact word_ofB x h h2
theorem word_repl_ne (s : ByteArray) (i k : Nat) (w : ByteArray) (hw : w.size = 2) (hi : i + 2 ≤ s.size) (hk : k + 2 ≤ s.size) (hne : k + 2 ≤ i ∨ i + 2 ≤ k) : word (repl s i w) k = word s k := by
  unfold word
  rw [bt_repl s i k _ hw hi (by omega), bt_repl s i (k + 1) _ hw hi (by omega)]
  rcases hne with h | h
  · rw [if_pos (by omega), if_pos (by omega)]
  · rw [if_neg (by omega), if_neg (by omega), if_neg (by omega), if_neg (by omega)]
theorem sumB_word (s : ByteArray) (h : s.size = 2) : sumB s = word s 0 := by
  have hw := wd_even s 0 (by omega)
  have hb := wd_bd s 0
  unfold sumB
  rw [h]
  show addStep 0 (wd s 0) = _
  rw [addStep_zero_left _ hb.1 hb.2, hw]; rfl
theorem word_extract (s : ByteArray) (i : Nat) : word (s.extract i (i + 2)) 0 = word s i := by
  unfold word; rw [bt_extract _ _ _ _ (by omega), bt_extract _ _ _ _ (by omega)]; rfl
theorem split3 (s : ByteArray) (i : Nat) (hi : i + 2 ≤ s.size) : s.extract 0 i ++ s.extract i (i + 2) ++ s.extract (i + 2) s.size = s := by
  apply ba_toList
  rw [append_toList, append_toList, extract_toList, extract_toList, extract_toList, List.drop_zero, ← size_toList s, List.take_length]
  have h1 : s.data.toList.take i ++ (s.data.toList.take (i + 2)).drop i = s.data.toList.take (i + 2) := by
    have := List.take_append_drop i (s.data.toList.take (i + 2))
    rwa [List.take_take, Nat.min_eq_left (by omega)] at this
  rw [h1, List.take_append_drop]
theorem sumB_parts (s : ByteArray) (i : Nat) (he : i % 2 = 0) (hi : i + 2 ≤ s.size) : sumB s = addStep (addStep (sumB (s.extract 0 i)) (word s i)) (sumB (s.extract (i + 2) s.size)) := by
  have hz0 : (s.extract 0 i).size = i := by rw [ByteArray.size_extract]; omega
  have hz1 : (s.extract i (i + 2)).size = 2 := by rw [ByteArray.size_extract]; omega
  rw [← word_extract, ← sumB_word _ hz1, ← sumB_three _ _ _ (by omega) (by omega), split3 s i hi]
theorem sumB_repl (s : ByteArray) (i : Nat) (x : Int) (h : 0 ≤ x) (h2 : x ≤ 65535) (he : i % 2 = 0) (hi : i + 2 ≤ s.size) : sumB (repl s i (ofB x 2)) = addStep (addStep (sumB (s.extract 0 i)) x) (sumB (s.extract (i + 2) s.size)) := by
  have hz0 : (s.extract 0 i).size = i := by rw [ByteArray.size_extract]; omega
  unfold repl
  rw [sumB_three _ _ _ (by omega) (by rw [ofB_size]), sumB_ofB2 x h h2]
theorem sumB_repl_mod (s : ByteArray) (i : Nat) (x : Int) (h : 0 ≤ x) (h2 : x ≤ 65535) (he : i % 2 = 0) (hi : i + 2 ≤ s.size) : sumB (repl s i (ofB x 2)) % 65535 = (sumB s - word s i + x) % 65535 := by
  rw [sumB_repl s i x h h2 he hi, sumB_parts s i he hi]
  have m1 := addStep_mod (addStep (sumB (s.extract 0 i)) x) (sumB (s.extract (i + 2) s.size))
  have m2 := addStep_mod (sumB (s.extract 0 i)) x
  have m3 := addStep_mod (addStep (sumB (s.extract 0 i)) (word s i)) (sumB (s.extract (i + 2) s.size))
  have m4 := addStep_mod (sumB (s.extract 0 i)) (word s i)
  generalize addStep (addStep (sumB (s.extract 0 i)) x) (sumB (s.extract (i + 2) s.size)) = u1 at *
  generalize addStep (sumB (s.extract 0 i)) x = u2 at *
  generalize addStep (addStep (sumB (s.extract 0 i)) (word s i)) (sumB (s.extract (i + 2) s.size)) = u3 at *
  generalize addStep (sumB (s.extract 0 i)) (word s i) = u4 at *
  generalize sumB (s.extract 0 i) = u5 at *
  generalize sumB (s.extract (i + 2) s.size) = u6 at *
  generalize word s i = u7 at *
  omega
theorem word_walk (s : ByteArray) (k : Nat) (h : k + 1 < s.size) :
    bits .or .u16 (IntKind.u16.wrap (IntKind.u16.wrap ((s[k]'(by omega)).toNat : Int) * 256)) (IntKind.u16.wrap ((s[k + 1]'h).toNat : Int)) = word s k := by
  have e0 : bt s k = ((s[k]'(by omega)).toNat : Int) := by unfold bt; simp [List.getD, show k < s.size by omega]; rfl
  have e1 : bt s (k + 1) = ((s[k + 1]'h).toNat : Int) := by unfold bt; simp [List.getD, h]; rfl
  unfold word
  rw [← e0, ← e1]
  have h0 := bt_bd s k
  have h1 := bt_bd s (k + 1)
  generalize bt s k = x at *
  generalize bt s (k + 1) = y at *
  rw [u16_wrap x (by omega) (by omega), u16_wrap y (by omega) (by omega), u16_wrap _ (by omega) (by omega), u16_or _ _ (by omega) (by omega) (by omega) (by omega)]
  obtain ⟨a, rfl⟩ := Int.eq_ofNat_of_zero_le h0.1
  obtain ⟨b, rfl⟩ := Int.eq_ofNat_of_zero_le h1.1
  have := or_disj a b 8 (by omega)
  rw [show (((a : Int) * 256).toNat) = 2 ^ 8 * a by omega, Int.toNat_natCast, this]; omega
/-- The law of SumWords: a word that becomes another one. -/
theorem words_same (a c : ByteArray) (k : Nat) (x : Int) (hx : 0 ≤ x) (hx2 : x ≤ 65535) (hk : k % 2 = 0) (hk2 : k + 2 ≤ a.size) (hc : repl a k (ofB x 2) = c)
    (h : word a k % 65535 = x % 65535) : sumB c = sumB a ∨ sumB c % 65535 = 0 := by
  have h1 := sumB_repl_mod a k x hx hx2 hk hk2
  rw [hc] at h1
  have hb := sumB_bd c
  have ha := sumB_bd a
  have hw := word_bd a k
  generalize word a k = w at *
  rcases mod_eq (sumB c) (sumB a) hb.1 hb.2 ha.1 ha.2 (by omega) with e | e
  · exact .inl e
  · exact .inr e.1
theorem words_eq (a c : ByteArray) (k : Nat) (x : Int) (hx : 0 ≤ x) (hx2 : x ≤ 65535) (hk : k % 2 = 0) (hk2 : k + 2 ≤ a.size) (hc : repl a k (ofB x 2) = c)
    (h : word a k = x) : sumB c = sumB a := by
  rw [← hc, sumB_repl a k x hx hx2 hk hk2, sumB_parts a k hk hk2, h]
theorem words_ne (a c : ByteArray) (k : Nat) (x : Int) (hx : 0 ≤ x) (hx2 : x ≤ 65535) (hk : k % 2 = 0) (hk2 : k + 2 ≤ a.size) (hc : repl a k (ofB x 2) = c)
    (h : ¬ word a k % 65535 = x % 65535) : ¬ sumB c = sumB a := by
  have h1 := sumB_repl_mod a k x hx hx2 hk hk2
  rw [hc] at h1
  intro e
  rw [e] at h1
  generalize word a k = w at *
  generalize sumB a = v at *
  omega
theorem sumB_comm (a b : ByteArray) (ha : a.size % 2 = 0) (hb : b.size % 2 = 0) : sumB (a ++ b) = sumB (b ++ a) := by
  rw [sumB_append a b ha, sumB_append b a hb, addStep_comm]
/-- The law of SumRight. -/
theorem right_turned (s s2 u u2 : ByteArray) (i k m : Nat) (c x r : Int) (hs2 : s2.size = 2 * m) (hr2 : (sumB s2 == 65535) = true) (hwi : word s2 i = c)
    (hu : repl s2 k (ofB x 2) = u) (hu2 : repl u i (ofB r 2) = u2) (hr : turnV c (word s2 k) x = r) (hc : 0 ≤ c) (hc2 : c ≤ 65535) (hx : 0 ≤ x) (hx2 : x ≤ 65535)
    (hi : i % 2 = 0) (hk : k % 2 = 0) (hi2 : i + 2 ≤ 2 * m) (hk2 : k + 2 ≤ 2 * m) (hne : i ≠ k) : sumB u2 = 65535 ∨ sumB u2 = 0 := by
  have hw := word_bd s2 k
  have hrb := turnV_bd c (word s2 k) x hc hc2 hw.1 hw.2 hx hx2
  have hm := turnV_mod c (word s2 k) x
  rw [hr] at hrb hm
  have hz : u.size = s2.size := by rw [← hu, repl_size _ _ _ (ofB_size _ _) (by omega)]
  have h1 := sumB_repl_mod s2 k x hx hx2 hk (by omega)
  have h2 := sumB_repl_mod u i r hrb.1 hrb.2 hi (by omega)
  have h3 : word u i = c := by rw [← hu, word_repl_ne _ _ _ _ (ofB_size _ _) (by omega) (by omega) (by omega), hwi]
  rw [hu] at h1
  rw [hu2, h3] at h2
  have hb := sumB_bd u2
  have hs : sumB s2 = 65535 := by simpa using hr2
  rw [hs] at h1
  generalize sumB u2 = v2 at *
  generalize sumB u = v1 at *
  generalize word s2 k = W at *
  omega
end Sp
end Go.Proofs.Ytnmeeafnobfobaa
