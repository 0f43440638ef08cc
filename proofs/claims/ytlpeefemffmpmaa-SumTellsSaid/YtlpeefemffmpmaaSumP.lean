/- Plain facts about the sum. -/
import Derived.Test.YtlpeefemffmpmaaSpec
namespace Go.Proofs.Ytlpeefemffmpmaa
open Go.RowKit
namespace Sp
theorem wd_append_left (s t : ByteArray) (k : Nat) (h : 2 * k + 2 ≤ s.size) : wd (s ++ t) k = wd s k := by
  have e : ∀ i, i < s.size → bt (s ++ t) i = bt s i := fun i hi => by
    unfold bt; rw [append_toList, List.getD_eq_getElem?_getD, List.getD_eq_getElem?_getD, List.getElem?_append_left (by rw [size_toList]; exact hi)]
  rw [wd_even s k h, wd_even (s ++ t) k (by rw [ByteArray.size_append]; omega), e _ (by omega), e _ (by omega)]
theorem bt_append_right (s t : ByteArray) (i : Nat) : bt (s ++ t) (s.size + i) = bt t i := by
  unfold bt; rw [append_toList, List.getD_eq_getElem?_getD, List.getD_eq_getElem?_getD, List.getElem?_append_right (by rw [size_toList]; omega), size_toList, show s.size + i - s.size = i by omega]
theorem wd_append_right (s t : ByteArray) (m k : Nat) (hm : s.size = 2 * m) (hk : 2 * k < t.size) : wd (s ++ t) (m + k) = wd t k := by
  have h0 := bt_append_right s t (2 * k)
  have h1 := bt_append_right s t (2 * k + 1)
  rw [hm] at h0 h1
  by_cases h : 2 * k + 2 ≤ t.size
  · rw [wd_even t k h, wd_even (s ++ t) (m + k) (by rw [ByteArray.size_append]; omega), show 2 * (m + k) = 2 * m + 2 * k by omega, h0, Nat.add_assoc, h1]
  · rw [wd_odd t k (by omega), wd_odd (s ++ t) (m + k) (by rw [ByteArray.size_append]; omega), show 2 * (m + k) = 2 * m + 2 * k by omega, h0]
theorem wds_append (s t : ByteArray) (m n : Nat) (hm : s.size = 2 * m) (hn : 2 * n ≤ t.size + 1) : wds (s ++ t) (m + n) = wds s m ++ wds t n := by
  have h1 : (List.range m).map (wdS (s ++ t)) = (List.range m).map (wdS s) := by
    apply List.map_congr_left
    intro k hk
    simp only [List.mem_range] at hk
    exact Subtype.ext (wd_append_left s t k (by omega))
  have h2 : ((List.range n).map (m + ·)).map (wdS (s ++ t)) = (List.range n).map (wdS t) := by
    rw [List.map_map]
    apply List.map_congr_left
    intro k hk
    simp only [List.mem_range] at hk
    exact Subtype.ext (wd_append_right s t m k hm (by omega))
  unfold wds
  rw [List.range_add, List.map_append, h1, h2]
/-- The sum, from a number on. -/
def sumFrom (a : Int) (l : List W16) : Int := l.foldl (fun n x => addStep n x.1) a
theorem addStep_eq (n x : Int) (h1 : 0 ≤ n) (h2 : n ≤ 65535) (h3 : 0 ≤ x) (h4 : x ≤ 65535) : addStep n x = if 65535 < n + x then n + x - 65535 else n + x := by
  unfold addStep; split <;> omega
theorem addStep_comm (n x : Int) : addStep n x = addStep x n := by unfold addStep; rw [Int.add_comm n x]
theorem addStep_assoc (a b c : Int) (a1 : 0 ≤ a) (a2 : a ≤ 65535) (b1 : 0 ≤ b) (b2 : b ≤ 65535) (c1 : 0 ≤ c) (c2 : c ≤ 65535) : addStep (addStep a b) c = addStep a (addStep b c) := by
  have h1 := addStep_bd a b a1 a2 b1 b2
  have h2 := addStep_bd b c b1 b2 c1 c2
  rw [addStep_eq _ c h1.1 h1.2 c1 c2, addStep_eq a _ a1 a2 h2.1 h2.2, addStep_eq a b a1 a2 b1 b2, addStep_eq b c b1 b2 c1 c2]
  (repeat' split) <;> omega
theorem addStep_zero_left (x : Int) (h3 : 0 ≤ x) (h4 : x ≤ 65535) : addStep 0 x = x := by unfold addStep; omega
theorem sumFrom_eq (l : List W16) : ∀ a, 0 ≤ a → a ≤ 65535 → sumFrom a l = addStep a (sumW l) := by
  induction l with
  | nil => intro a h1 h2; show a = addStep a 0; rw [addStep_comm, addStep_zero_left a h1 h2]
  | cons x l ih =>
    intro a h1 h2
    have hx := x.2
    have ha := addStep_bd a x.1 h1 h2 hx.1 hx.2
    have hz := addStep_bd 0 x.1 (by decide) (by decide) hx.1 hx.2
    have hl := sumW_bd l
    show sumFrom (addStep a x.1) l = addStep a (sumFrom (addStep 0 x.1) l)
    rw [ih _ ha.1 ha.2, ih _ hz.1 hz.2, addStep_zero_left _ hx.1 hx.2, addStep_assoc _ _ _ h1 h2 hx.1 hx.2 hl.1 hl.2]
theorem sumW_append (l m : List W16) : sumW (l ++ m) = addStep (sumW l) (sumW m) := by
  have h := sumW_bd l
  rw [← sumFrom_eq m _ h.1 h.2]
  simp [sumW, sumFrom]
/-- The sum of a text of even length, and of what stands behind it. -/
theorem sumB_append (s t : ByteArray) (h : s.size % 2 = 0) : sumB (s ++ t) = addStep (sumB s) (sumB t) := by
  unfold sumB
  rw [ByteArray.size_append, show (s.size + t.size + 1) / 2 = s.size / 2 + (t.size + 1) / 2 by omega, wds_append s t (s.size / 2) _ (by omega) (by omega), sumW_append, show (s.size + 1) / 2 = s.size / 2 by omega]
theorem sumB_ofB2 (x : Int) (h : 0 ≤ x) (h2 : x ≤ 65535) : sumB (ofB x 2) = x := by
  have hz := ofB_size x 2
  have hw := wd_even (ofB x 2) 0 (by omega)
  have e0 : bt (ofB x 2) 0 = x / 256 % 256 := by
    show (((ofL x 2).getD 0 0).toNat : Int) = _
    have := ofL_get x 2 0 (by rw [ofL_length]; omega)
    rw [List.getD_eq_getElem?_getD, List.getElem?_eq_getElem (by rw [ofL_length]; omega), Option.getD_some]
    simpa using this
  have e1 : bt (ofB x 2) 1 = x % 256 := by
    show (((ofL x 2).getD 1 0).toNat : Int) = _
    have := ofL_get x 2 1 (by rw [ofL_length]; omega)
    rw [List.getD_eq_getElem?_getD, List.getElem?_eq_getElem (by rw [ofL_length]; omega), Option.getD_some]
    simpa using this
  have e2 : wd (ofB x 2) 0 = x := by rw [hw, e0, e1]; omega
  unfold sumB
  rw [hz]
  show addStep 0 (wd (ofB x 2) 0) = x
  rw [e2, addStep_zero_left x h h2]
theorem rturn_eq (c a b : Int) (hc : 0 ≤ c) (hc2 : c ≤ 65535) (ha : 0 ≤ a) (ha2 : a ≤ 65535) (hb : 0 ≤ b) (hb2 : b ≤ 65535) :
    65535 - sumB (ofB (65535 - c) 2 ++ ofB (65535 - a) 2 ++ ofB b 2) = turnV c a b := by
  rw [sumB_append _ _ (by rw [ByteArray.size_append, ofB_size, ofB_size]), sumB_append _ _ (by rw [ofB_size]), sumB_ofB2 _ (by omega) (by omega), sumB_ofB2 _ (by omega) (by omega), sumB_ofB2 _ hb hb2]
  rfl
end Sp
end Go.Proofs.Ytlpeefemffmpmaa
