/- Plain functions on bytes and numbers that the contracts speak of. -/
import Derived.Below
import Derived.WalkKit
import Derived.Deep.Draws
namespace Go.Proofs.YtnikpanebkknfaaDoor
open Go.RowKit
theorem below_new {w0 W : World} (h : Below w0.heap.size w0 W) (o : Obj) : Below w0.heap.size w0 (W.alloc o) := h.alloc h.size o
theorem below_drewN {B : Nat} {a w : World} (h : Below B a w) (n : Nat) : Below B a (w.drewN n) := h.trans ⟨rfl, rfl, rfl, Nat.le_refl _, fun _ _ => rfl⟩
theorem hid {p : Prop} (h : p) : Hid p := h
namespace Sp

/-- Big-endian number of a list of bytes. -/
def be (l : List UInt8) : Nat := l.foldl (fun a c => a * 256 + c.toNat) 0

def textOk (s : ByteArray) (p n : Int) : Bool := decide (0 ≤ p) && decide (0 ≤ n) && decide (p ≤ s.size) && decide (n ≤ s.size - p)
def textS (s : ByteArray) (p n : Int) : ByteArray := if textOk s p n = true then s.extract p.toNat (p + n).toNat else ByteArray.mk #[]
def textE (s : ByteArray) (p n : Int) : Int := if p < 0 ∨ n < 0 then 2 else if textOk s p n = true then 0 else 10

theorem be_snoc (l : List UInt8) (c : UInt8) : be (l ++ [c]) = be l * 256 + c.toNat := by simp [be]
theorem be_lt (l : List UInt8) : be l < 256 ^ l.length := by
  suffices h : ∀ (l : List UInt8) (a k : Nat), a < 256 ^ k → l.foldl (fun a c => a * 256 + c.toNat) a < 256 ^ (k + l.length) by
    have := h l 0 0 (by simp); simpa [be] using this
  intro l
  induction l with
  | nil => intro a k h; simpa using h
  | cons c l ih =>
    intro a k h
    have h2 := c.toNat_lt
    have := ih (a * 256 + c.toNat) (k + 1) (by rw [Nat.pow_succ]; omega)
    simp only [List.foldl_cons, List.length_cons]
    rw [show k + (l.length + 1) = k + 1 + l.length by omega]; exact this
/-- The number of a list of bytes, modulo m, as an Int. -/
def num (m : Nat) (l : List UInt8) : Int := ((be l % m : Nat) : Int)
theorem num_nil (m : Nat) : num m [] = 0 := by simp [num, be]
theorem num_nonneg (m : Nat) (l : List UInt8) : 0 ≤ num m l := by unfold num; omega
theorem num_lt (m : Nat) (l : List UInt8) (h : 0 < m) : num m l < m := by unfold num; have := Nat.mod_lt (be l) h; omega
theorem or_disj (a b k : Nat) (h : b < 2 ^ k) : 2 ^ k * a ||| b = 2 ^ k * a + b := (Nat.two_pow_add_eq_or_of_lt h a).symm
theorem u64_or256 (x y : Int) (hx : 0 ≤ x) (hx2 : x < 72057594037927936) (hy : 0 ≤ y) (hy2 : y < 256) : bits .or .u64 (x * 256) y = x * 256 + y := by
  rw [u64_or _ _ (by omega) (by omega) hy (by omega)]
  obtain ⟨a, rfl⟩ := Int.eq_ofNat_of_zero_le hx
  obtain ⟨b, rfl⟩ := Int.eq_ofNat_of_zero_le hy
  have := or_disj a b 8 (by omega)
  rw [show (((a : Int) * 256).toNat) = 2 ^ 8 * a by omega, Int.toNat_natCast, this]; omega
theorem u32_mask16 (x : Int) (hx : 0 ≤ x) (hx2 : x < 4294967296) : bits .and .u32 x 65535 = x % 65536 := by
  rw [u32_and _ _ hx hx2 (by decide) (by decide)]
  obtain ⟨a, rfl⟩ := Int.eq_ofNat_of_zero_le hx
  have := Nat.and_two_pow_sub_one_eq_mod a 16
  rw [Int.toNat_natCast, show ((65535 : Int).toNat) = 2 ^ 16 - 1 from rfl, this]; rfl
theorem num_step (m : Nat) (l : List UInt8) (c : UInt8) : num m (l ++ [c]) = (num m l * 256 + c.toNat) % m := by
  unfold num; rw [be_snoc]
  have : (be l * 256 + c.toNat) % m = ((be l % m) * 256 + c.toNat) % m := by
    rw [Nat.add_mod, Nat.mul_mod, ← Nat.mod_mod (be l) m, ← Nat.mul_mod, Nat.mod_mod, ← Nat.add_mod]
  rw [this]
  simp
theorem take_snoc (s : ByteArray) (k : Nat) (h : k < s.size) : s.data.toList.take (k + 1) = s.data.toList.take k ++ [s.data[k]] := by
  rw [List.take_succ_eq_append_getElem (by simpa using h)]; rfl
theorem num16_take (s : ByteArray) (k : Nat) (h : k < s.size) :
    IntKind.u16.wrap (bits .or .u64 (num 65536 (s.data.toList.take k) * 256) (IntKind.u64.wrap ↑s.data[k].toNat)) = num 65536 (s.data.toList.take (k + 1)) := by
  have h1 := num_nonneg 65536 (s.data.toList.take k)
  have h2 := num_lt 65536 (s.data.toList.take k) (by omega)
  have h3 := s.data[k].toNat_lt
  rw [take_snoc s k h, num_step, IntWalk.u64_in _ ⟨by omega, by omega⟩, u64_or256 _ _ h1 (by omega) (by omega) (by omega)]
  simp [IntKind.wrap, IntKind.bits, IntKind.signed]
theorem num32_take (s : ByteArray) (k : Nat) (h : k < s.size) :
    bits .or .u64 (num 4294967296 (s.data.toList.take k) * 256) (IntKind.u64.wrap ↑s.data[k].toNat) % 4294967296 = num 4294967296 (s.data.toList.take (k + 1)) := by
  have h1 := num_nonneg 4294967296 (s.data.toList.take k)
  have h2 := num_lt 4294967296 (s.data.toList.take k) (by omega)
  have h3 := s.data[k].toNat_lt
  rw [take_snoc s k h, num_step, IntWalk.u64_in _ ⟨by omega, by omega⟩, u64_or256 _ _ h1 (by omega) (by omega) (by omega)]
  rfl
theorem textS_size (s : ByteArray) (p n : Int) : (textS s p n).size ≤ s.size := by
  unfold textS; split
  · rw [ByteArray.size_extract]; omega
  · show (#[] : Array UInt8).size ≤ _; simp
/-- The cells of word.Of's array behind k rounds. -/
def ofCells (x : Int) : Nat → Array Value
  | 0 => #[.int .u8 0, .int .u8 0, .int .u8 0, .int .u8 0, .int .u8 0, .int .u8 0, .int .u8 0, .int .u8 0]
  | k + 1 => (ofCells x k).setIfInBounds (7 - k) (.int .u8 (x / 2 ^ (8 * k) % 256))
theorem ofCells_size (x : Int) (k : Nat) : (ofCells x k).size = 8 := by
  induction k with
  | zero => rfl
  | succ k ih => simp [ofCells, ih]
/-- The last n bytes of a number, the highest first. -/
def ofL (x : Int) (n : Nat) : List UInt8 := (List.range n).map fun i => UInt8.ofNat (x / 2 ^ (8 * (n - 1 - i)) % 256).toNat
def ofB (x : Int) (n : Nat) : ByteArray := ⟨(ofL x n).toArray⟩
theorem ofL_length (x : Int) (n : Nat) : (ofL x n).length = n := by simp [ofL]
theorem ofCells_get (x : Int) (k j : Nat) (hk : k ≤ 8) (hj : j < 8) (hjk : 7 - j < k) : (ofCells x k)[j]? = some (.int .u8 (x / 2 ^ (8 * (7 - j)) % 256)) := by
  induction k with
  | zero => omega
  | succ k ih =>
    have hz := ofCells_size x k
    simp only [ofCells]
    by_cases h : j = 7 - k
    · subst h
      rw [Array.getElem?_setIfInBounds_self_of_lt (by omega)]
      rw [show 7 - (7 - k) = k by omega]
    · rw [Array.getElem?_setIfInBounds_ne (by omega)]
      exact ih (by omega) (by omega)
theorem ofL_get (x : Int) (n j : Nat) (hj : j < (ofL x n).length) : (((ofL x n)[j]).toNat : Int) = x / 2 ^ (8 * (n - 1 - j)) % 256 := by
  have h0 : 0 ≤ x / 2 ^ (8 * (n - 1 - j)) % 256 := Int.emod_nonneg _ (by decide)
  have h1 : x / 2 ^ (8 * (n - 1 - j)) % 256 < 256 := Int.emod_lt_of_pos _ (by decide)
  simp only [ofL, List.getElem_map, List.getElem_range]
  generalize x / 2 ^ (8 * (n - 1 - j)) % 256 = y at h0 h1
  rw [UInt8.toNat_ofNat_of_lt' (by show y.toNat < 256; omega)]
  omega
theorem addr_add (b o j : Nat) : Addr.add ⟨b, o, none⟩ j = ⟨b, o + j, none⟩ := by
  unfold Addr.add; split
  · rename_i h; subst h; rfl
  · rfl
/-- Word number k of a text, as package sum tells it. -/
def wd (s : ByteArray) (k : Nat) : Int := num 65536 (textS (s.extract (2 * k) (min (2 * k + 2) s.size) ++ ⟨#[0]⟩) 0 2).data.toList
theorem wd_bd (s : ByteArray) (k : Nat) : 0 ≤ wd s k ∧ wd s k ≤ 65535 := ⟨num_nonneg _ _, by have := num_lt 65536 (textS (s.extract (2 * k) (min (2 * k + 2) s.size) ++ ⟨#[0]⟩) 0 2).data.toList (by omega); unfold wd; omega⟩
abbrev W16 : Type := { x : Int // 0 ≤ x ∧ x ≤ 65535 }
def wdS (s : ByteArray) (k : Nat) : W16 := ⟨wd s k, wd_bd s k⟩
def wds (s : ByteArray) (n : Nat) : List W16 := (List.range n).map (wdS s)
theorem wds_succ (s : ByteArray) (n : Nat) : wds s (n + 1) = wds s n ++ [wdS s n] := by simp [wds, List.range_succ]
/-- One step of the sum. -/
def addStep (n x : Int) : Int := (n + x) % 65536 + (n + x) / 65536
def sumW (l : List W16) : Int := l.foldl (fun n x => addStep n x.1) 0
theorem sumW_snoc (l : List W16) (x : W16) : sumW (l ++ [x]) = addStep (sumW l) x.1 := by simp [sumW]
theorem addStep_bd (n x : Int) (h1 : 0 ≤ n) (h2 : n ≤ 65535) (h3 : 0 ≤ x) (h4 : x ≤ 65535) : 0 ≤ addStep n x ∧ addStep n x ≤ 65535 := by unfold addStep; omega
theorem addStep_walk (n x : Int) (h1 : 0 ≤ n) (h2 : n ≤ 65535) (h3 : 0 ≤ x) (h4 : x ≤ 65535) :
    (bits .and .u32 (n + x) 65535 + (n + x) / 65536) % 4294967296 = addStep n x := by
  rw [u32_mask16 _ (by omega) (by omega)]; unfold addStep; omega
theorem sumW_bd (l : List W16) : 0 ≤ sumW l ∧ sumW l ≤ 65535 := by
  suffices h : ∀ (l : List W16) (a : Int), 0 ≤ a → a ≤ 65535 → 0 ≤ l.foldl (fun n x => addStep n x.1) a ∧ l.foldl (fun n x => addStep n x.1) a ≤ 65535 from h l 0 (by decide) (by decide)
  intro l
  induction l with
  | nil => intro a h1 h2; exact ⟨h1, h2⟩
  | cons x l ih =>
    intro a h1 h2
    have := addStep_bd a x.1 h1 h2 x.2.1 x.2.2
    exact ih _ this.1 this.2
/-- The sum of a text. -/
def sumB (s : ByteArray) : Int := sumW (wds s ((s.size + 1) / 2))
theorem sumB_bd (s : ByteArray) : 0 ≤ sumB s ∧ sumB s ≤ 65535 := sumW_bd _
theorem ofB_size (x : Int) (n : Nat) : (ofB x n).size = n := by show (List.toArray _).size = n; simp [ofL_length]
def headB (x y p n : Int) : ByteArray := ofB x 4 ++ ofB y 4 ++ ofB p 2 ++ ofB n 2
theorem headB_size (x y p n : Int) : (headB x y p n).size = 12 := by simp [headB, ofB_size]
theorem xor_ones (a n : Nat) (h : a < 2 ^ n) : a ^^^ (2 ^ n - 1) = 2 ^ n - (a + 1) := by
  apply Nat.eq_of_testBit_eq
  intro i
  rw [Nat.testBit_xor, Nat.testBit_two_pow_sub_one, Nat.testBit_two_pow_sub_succ h]
  by_cases hi : i < n
  · simp [hi]
  · have := Nat.testBit_lt_two_pow (Nat.lt_of_lt_of_le h (Nat.pow_le_pow_right (by omega) (Nat.le_of_not_lt hi)))
    simp [hi, this]
theorem u16_not (x : Int) (h : 0 ≤ x) (h2 : x ≤ 65535) : bits .xor .u16 IntKind.u16.max x = 65535 - x := by
  have e : IntKind.u16.max = 65535 := by decide
  rw [e, u16_xor _ _ (by decide) (by decide) h (by omega)]
  obtain ⟨a, rfl⟩ := Int.eq_ofNat_of_zero_le h
  rw [Int.toNat_natCast, show ((65535 : Int).toNat) = 2 ^ 16 - 1 from rfl, Nat.xor_comm, xor_ones a 16 (by omega)]
  omega
theorem ofL_succ (x : Int) (k : Nat) : ofL x (k + 1) = UInt8.ofNat (x / 2 ^ (8 * k) % 256).toNat :: ofL x k := by
  simp only [ofL, List.range_succ_eq_map, List.map_cons, List.map_map]
  congr 1
  apply List.map_congr_left
  intro i hi
  simp only [Function.comp, Nat.succ_eq_add_one]
  rw [show k + 1 - 1 - (i + 1) = k - 1 - i by omega]
theorem ofB_succ (x : Int) (k : Nat) : ofB x (k + 1) = ⟨#[UInt8.ofNat (x / 2 ^ (8 * k) % 256).toNat]⟩ ++ ofB x k := by
  apply ByteArray.ext
  show (ofL x (k + 1)).toArray = _
  rw [ofL_succ, ByteArray.data_append]
  show _ = #[_] ++ (ofL x k).toArray
  simp
theorem ofB_zero (x : Int) : ofB x 0 = ⟨#[]⟩ := rfl
theorem div_step (x : Int) (k : Nat) : x / 2 ^ (8 * k) / 256 = x / 2 ^ (8 * (k + 1)) := by
  rw [Int.ediv_ediv_of_nonneg (Int.pow_nonneg (by decide)), show 8 * (k + 1) = 8 * k + 8 by omega, Int.pow_add]; rfl
/-- The reference's sum behind k bytes. -/
def refN (s : ByteArray) : Nat → Int
  | 0 => 0
  | k + 1 =>
    if 65535 < refN s k + (if k % 2 = 0 then 256 * ((s.data.toList.getD k 0).toNat : Int) else ((s.data.toList.getD k 0).toNat : Int))
    then refN s k + (if k % 2 = 0 then 256 * ((s.data.toList.getD k 0).toNat : Int) else ((s.data.toList.getD k 0).toNat : Int)) - 65535
    else refN s k + (if k % 2 = 0 then 256 * ((s.data.toList.getD k 0).toNat : Int) else ((s.data.toList.getD k 0).toNat : Int))
theorem refN_bd (s : ByteArray) (k : Nat) : 0 ≤ refN s k ∧ refN s k ≤ 65535 := by
  induction k with
  | zero => simp [refN]
  | succ k ih =>
    have := (s.data.toList.getD k 0).toNat_lt
    simp only [refN]
    split <;> split at * <;> omega
/-- A byte of a text, as a number. -/
def bt (s : ByteArray) (i : Nat) : Int := ((s.data.toList.getD i 0).toNat : Int)
theorem bt_bd (s : ByteArray) (i : Nat) : 0 ≤ bt s i ∧ bt s i < 256 := by
  have := (s.data.toList.getD i 0).toNat_lt
  unfold bt; omega
theorem extract_toList (s : ByteArray) (a b : Nat) : (s.extract a b).data.toList = (s.data.toList.take b).drop a := by
  rw [ByteArray.data_extract, Array.toList_extract, List.extract_eq_take_drop, List.drop_take]
theorem append_toList (s t : ByteArray) : (s ++ t).data.toList = s.data.toList ++ t.data.toList := by
  rw [ByteArray.data_append, Array.toList_append]
theorem size_toList (s : ByteArray) : s.data.toList.length = s.size := by simp
theorem drop_take2 (l : List UInt8) (i : Nat) (h : i + 2 ≤ l.length) : (l.take (i + 2)).drop i = [l.getD i 0, l.getD (i + 1) 0] := by
  rw [List.take_succ_eq_append_getElem (by omega), List.take_succ_eq_append_getElem (by omega), List.append_assoc, List.drop_append_of_le_length (by simp; omega), List.drop_of_length_le (by simp; omega)]
  simp [List.getD, show i < l.length by omega, show i + 1 < l.length by omega]
theorem drop_take1 (l : List UInt8) (i : Nat) (h : i + 1 = l.length) : (l.take l.length).drop i = [l.getD i 0] := by
  rw [← h, List.take_succ_eq_append_getElem (by omega), List.drop_append_of_le_length (by simp; omega), List.drop_of_length_le (by simp; omega)]
  simp [List.getD, show i < l.length by omega]
theorem num2 (a b : UInt8) : num 65536 [a, b] = 256 * (a.toNat : Int) + b.toNat := by
  have := a.toNat_lt; have := b.toNat_lt
  simp only [num, be, List.foldl_cons, List.foldl_nil]; omega
theorem wd_even (s : ByteArray) (k : Nat) (h : 2 * k + 2 ≤ s.size) : wd s k = 256 * bt s (2 * k) + bt s (2 * k + 1) := by
  have hz := size_toList s
  have hl : (s.extract (2 * k) (2 * k + 2) ++ ⟨#[0]⟩).size = 3 := by
    rw [ByteArray.size_append, ByteArray.size_extract]; show _ + 1 = 3; omega
  unfold wd textS textOk
  rw [Nat.min_eq_left h, if_pos (by rw [hl]; decide), extract_toList, append_toList, extract_toList, drop_take2 _ _ (by omega)]
  exact num2 _ _
theorem wd_odd (s : ByteArray) (k : Nat) (h : 2 * k + 1 = s.size) : wd s k = 256 * bt s (2 * k) := by
  have hz := size_toList s
  have hl : (s.extract (2 * k) s.size ++ ⟨#[0]⟩).size = 2 := by
    rw [ByteArray.size_append, ByteArray.size_extract]; show _ + 1 = 2; omega
  unfold wd textS textOk
  rw [Nat.min_eq_right (by omega), if_pos (by rw [hl]; decide), extract_toList, append_toList, extract_toList, ← hz, drop_take1 _ _ (by omega)]
  exact (num2 _ 0).trans (by simp [bt])
theorem refN_succ (s : ByteArray) (k : Nat) : refN s (k + 1) = if 65535 < refN s k + (if k % 2 = 0 then 256 * bt s k else bt s k) then refN s k + (if k % 2 = 0 then 256 * bt s k else bt s k) - 65535 else refN s k + (if k % 2 = 0 then 256 * bt s k else bt s k) := rfl
theorem refN_even (s : ByteArray) (j : Nat) (h : 2 * j ≤ s.size) : refN s (2 * j) = sumW (wds s j) := by
  induction j with
  | zero => rfl
  | succ j ih =>
    have hw := wd_even s j (by omega)
    have ih := ih (by omega)
    have h0 := bt_bd s (2 * j)
    have h1 := bt_bd s (2 * j + 1)
    have hb := sumW_bd (wds s j)
    rw [wds_succ, sumW_snoc, show 2 * (j + 1) = 2 * j + 1 + 1 by omega, refN_succ, refN_succ, ih, show (wdS s j).1 = wd s j from rfl, hw]
    rw [if_pos (show 2 * j % 2 = 0 by omega), if_neg (show ¬ (2 * j + 1) % 2 = 0 by omega)]
    unfold addStep
    (repeat' split) <;> omega
theorem refN_sum (s : ByteArray) : refN s s.size = sumB s := by
  unfold sumB
  rcases Nat.mod_two_eq_zero_or_one s.size with h | h
  · rw [show s.size = 2 * (s.size / 2) by omega, show (2 * (s.size / 2) + 1) / 2 = s.size / 2 by omega]
    exact refN_even s _ (by omega)
  · have e : s.size = 2 * (s.size / 2) + 1 := by omega
    have hw := wd_odd s (s.size / 2) e.symm
    have h0 := bt_bd s (2 * (s.size / 2))
    have hb := sumW_bd (wds s (s.size / 2))
    rw [show (s.size + 1) / 2 = s.size / 2 + 1 by omega, wds_succ, sumW_snoc, show (wdS s (s.size / 2)).1 = wd s (s.size / 2) from rfl, hw]
    rw [show refN s s.size = refN s (2 * (s.size / 2) + 1) from congrArg _ e, refN_succ, refN_even s _ (by omega), if_pos (show 2 * (s.size / 2) % 2 = 0 by omega)]
    unfold addStep
    (repeat' split) <;> omega
theorem u16_not' (x : Int) (h : 0 ≤ x) (h2 : x ≤ 65535) : bits .xor .u16 IntKind.u16.max x = 65535 - x := u16_not x h h2
/-- sum.Turn. -/
def turnV (c a b : Int) : Int := 65535 - addStep (addStep (65535 - c) (65535 - a)) b
theorem turnV_bd (c a b : Int) (hc : 0 ≤ c) (hc2 : c ≤ 65535) (ha : 0 ≤ a) (ha2 : a ≤ 65535) (hb : 0 ≤ b) (hb2 : b ≤ 65535) : 0 ≤ turnV c a b ∧ turnV c a b ≤ 65535 := by
  have h1 := addStep_bd (65535 - c) (65535 - a) (by omega) (by omega) (by omega) (by omega)
  have h2 := addStep_bd (addStep (65535 - c) (65535 - a)) b h1.1 h1.2 hb hb2
  unfold turnV; omega
theorem u16_wrap (x : Int) (h : 0 ≤ x) (h2 : x ≤ 65535) : IntKind.u16.wrap x = x := by
  simp only [IntKind.wrap, IntKind.bits, IntKind.signed]; simp; omega
theorem u64_wrap_bd (n : Int) : 0 ≤ IntKind.u64.wrap n ∧ IntKind.u64.wrap n < 18446744073709551616 := by
  simp only [IntKind.wrap, IntKind.bits, IntKind.signed]; simp; omega
theorem u64_wrap_in (n : Int) (h : 0 ≤ n) (h2 : n < 18446744073709551616) : IntKind.u64.wrap n = n := by
  simp only [IntKind.wrap, IntKind.bits, IntKind.signed]; simp; omega
theorem turn_walk (c a b : Int) (hc : 0 ≤ c) (hc2 : c ≤ 65535) (ha : 0 ≤ a) (ha2 : a ≤ 65535) (hb : 0 ≤ b) (hb2 : b ≤ 65535) :
    bits .xor .u16 IntKind.u16.max (IntKind.u16.wrap ((bits .and .u32 ((bits .and .u32 ((65535 - c + (65535 - a) + b) % 4294967296) 65535 + ((65535 - c + (65535 - a) + b) % 4294967296) / 65536) % 4294967296) 65535 + ((bits .and .u32 ((65535 - c + (65535 - a) + b) % 4294967296) 65535 + ((65535 - c + (65535 - a) + b) % 4294967296) / 65536) % 4294967296) / 65536) % 4294967296)) = turnV c a b := by
  have e1 : ((65535 - c + (65535 - a) + b) % 4294967296) = 65535 - c + (65535 - a) + b := by omega
  rw [e1]
  unfold turnV addStep
  generalize hm : 65535 - c + (65535 - a) + b = m
  have hm0 : 0 ≤ m := by omega
  have hm1 : m ≤ 196605 := by omega
  rw [u32_mask16 m hm0 (by omega)]
  have e2 : (m % 65536 + m / 65536) % 4294967296 = m % 65536 + m / 65536 := by omega
  rw [e2, u32_mask16 _ (by omega) (by omega)]
  have hq : m / 65536 = 0 ∨ m / 65536 = 1 ∨ m / 65536 = 2 := by omega
  generalize hr : m % 65536 = r
  have hqq : m = 65536 * (m / 65536) + r := by omega
  have hr0 : 0 ≤ r ∧ r ≤ 65535 := by omega
  generalize m / 65536 = q at *
  have hx : (r + q) / 65536 = 0 ∨ (r + q) / 65536 = 1 := by omega
  have hz : 0 ≤ (r + q) % 65536 + (r + q) / 65536 ∧ (r + q) % 65536 + (r + q) / 65536 ≤ 65535 := by rcases hx with h | h <;> omega
  have e3 : ((r + q) % 65536 + (r + q) / 65536) % 4294967296 = (r + q) % 65536 + (r + q) / 65536 := by omega
  rw [e3, u16_wrap _ hz.1 hz.2, u16_not _ hz.1 hz.2]
  have h1 : (65535 - c + (65535 - a)) / 65536 = 0 ∨ (65535 - c + (65535 - a)) / 65536 = 1 := by omega
  have h2 : ((65535 - c + (65535 - a)) % 65536 + (65535 - c + (65535 - a)) / 65536 + b) / 65536 = 0 ∨ ((65535 - c + (65535 - a)) % 65536 + (65535 - c + (65535 - a)) / 65536 + b) / 65536 = 1 := by omega
  rcases hq with rfl | rfl | rfl <;> rcases hx with h | h <;> rcases h1 with h1 | h1 <;> rcases h2 with h2 | h2 <;> omega
theorem addStep_mod (n x : Int) : addStep n x % 65535 = (n + x) % 65535 := by unfold addStep; omega
theorem addStep_zero (n x : Int) (h1 : 0 ≤ n) (h3 : 0 ≤ x) : addStep n x = 0 ↔ n = 0 ∧ x = 0 := by unfold addStep; omega
theorem turnV_mod (c a b : Int) : turnV c a b % 65535 = (c + a - b) % 65535 := by
  have h1 := addStep_mod (65535 - c) (65535 - a)
  have h2 := addStep_mod (addStep (65535 - c) (65535 - a)) b
  unfold turnV
  generalize addStep (addStep (65535 - c) (65535 - a)) b = u at *
  generalize addStep (65535 - c) (65535 - a) = v at *
  omega
/-- Two numbers up to 65,535 that are equal modulo 65,535 are equal, or both are 0 modulo it. -/
theorem mod_eq (p q : Int) (h1 : 0 ≤ p) (h2 : p ≤ 65535) (h3 : 0 ≤ q) (h4 : q ≤ 65535) (h : p % 65535 = q % 65535) : p = q ∨ p % 65535 = 0 ∧ q % 65535 = 0 := by omega
theorem turn_back (c a b : Int) (hc : 0 ≤ c) (hc2 : c ≤ 65535) (ha : 0 ≤ a) (ha2 : a ≤ 65535) (hb : 0 ≤ b) (hb2 : b ≤ 65535) :
    turnV (turnV c a b) b a = c ∨ turnV (turnV c a b) b a % 65535 = 0 ∧ c % 65535 = 0 := by
  have h1 := turnV_bd c a b hc hc2 ha ha2 hb hb2
  have h2 := turnV_bd (turnV c a b) b a h1.1 h1.2 hb hb2 ha ha2
  have m1 := turnV_mod c a b
  have m2 := turnV_mod (turnV c a b) b a
  refine mod_eq _ _ h2.1 h2.2 hc hc2 ?_
  generalize turnV (turnV c a b) b a = u at *
  generalize turnV c a b = v at *
  omega
theorem turn_swap (c a b x y : Int) (hc : 0 ≤ c) (hc2 : c ≤ 65535) (ha : 0 ≤ a) (ha2 : a ≤ 65535) (hb : 0 ≤ b) (hb2 : b ≤ 65535) (hx : 0 ≤ x) (hx2 : x ≤ 65535) (hy : 0 ≤ y) (hy2 : y ≤ 65535) :
    turnV (turnV c a b) x y = turnV (turnV c x y) a b ∨ turnV (turnV c a b) x y % 65535 = 0 ∧ turnV (turnV c x y) a b % 65535 = 0 := by
  have h1 := turnV_bd c a b hc hc2 ha ha2 hb hb2
  have h2 := turnV_bd (turnV c a b) x y h1.1 h1.2 hx hx2 hy hy2
  have h3 := turnV_bd c x y hc hc2 hx hx2 hy hy2
  have h4 := turnV_bd (turnV c x y) a b h3.1 h3.2 ha ha2 hb hb2
  have m1 := turnV_mod c a b
  have m2 := turnV_mod (turnV c a b) x y
  have m3 := turnV_mod c x y
  have m4 := turnV_mod (turnV c x y) a b
  refine mod_eq _ _ h2.1 h2.2 h4.1 h4.2 ?_
  generalize turnV (turnV c a b) x y = u at *
  generalize turnV c a b = v at *
  generalize turnV (turnV c x y) a b = u' at *
  generalize turnV c x y = v' at *
  omega
end Sp
end Go.Proofs.YtnikpanebkknfaaDoor
