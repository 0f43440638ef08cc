/- law 16, plain: what a segment's bytes say. -/
import Derived.Test.YtlpeefemffmpmaaV16c
import Derived.Test.YtlpeefemffmpmaaSumQ
namespace Go.Proofs.Ytlpeefemffmpmaa.VM
namespace L16
open Go.RowKit
set_option linter.unusedVariables false
set_option linter.unusedSimpArgs false
theorem ofB2_list (x : Int) : (Sp.ofB x 2).data.toList = [UInt8.ofNat (x / 256 % 256).toNat, UInt8.ofNat (x % 256).toNat] := by
  simp [Sp.ofB, Sp.ofL, List.range_succ]
theorem ofB1_list (x : Int) : (Sp.ofB x 1).data.toList = [UInt8.ofNat (x % 256).toNat] := by
  simp [Sp.ofB, Sp.ofL, List.range_succ]
theorem ofB4_list (x : Int) : (Sp.ofB x 4).data.toList = [UInt8.ofNat (x / 16777216 % 256).toNat, UInt8.ofNat (x / 65536 % 256).toNat, UInt8.ofNat (x / 256 % 256).toNat, UInt8.ofNat (x % 256).toNat] := by
  simp [Sp.ofB, Sp.ofL, List.range_succ]
theorem u8i (z : Int) (h : 0 ≤ z ∧ z ≤ 255) : ((UInt8.ofNat z.toNat).toNat : Int) = z := by simp; omega
theorem u8m (z : Int) : ((UInt8.ofNat (z % 256).toNat).toNat : Int) = z % 256 := u8i _ (by omega)
variable {x p y q sq ac fl wi ur : Int} {o d : ByteArray}
theorem raw16_list (x p y q sq ac fl wi ur : Int) (o d : ByteArray) : (raw16 x p y q sq ac fl wi ur o d).data.toList =
    [UInt8.ofNat (p / 256 % 256).toNat, UInt8.ofNat (p % 256).toNat, UInt8.ofNat (q / 256 % 256).toNat, UInt8.ofNat (q % 256).toNat,
     UInt8.ofNat (sq / 16777216 % 256).toNat, UInt8.ofNat (sq / 65536 % 256).toNat, UInt8.ofNat (sq / 256 % 256).toNat, UInt8.ofNat (sq % 256).toNat,
     UInt8.ofNat (ac / 16777216 % 256).toNat, UInt8.ofNat (ac / 65536 % 256).toNat, UInt8.ofNat (ac / 256 % 256).toNat, UInt8.ofNat (ac % 256).toNat,
     UInt8.ofNat (16 * ((20 + o.size) / 4 : Int)).toNat, UInt8.ofNat fl.toNat, UInt8.ofNat (wi / 256 % 256).toNat, UInt8.ofNat (wi % 256).toNat,
     UInt8.ofNat (sum16 x p y q sq ac fl wi ur o d / 256 % 256).toNat, UInt8.ofNat (sum16 x p y q sq ac fl wi ur o d % 256).toNat,
     UInt8.ofNat (ur / 256 % 256).toNat, UInt8.ofNat (ur % 256).toNat] ++ (o.data.toList ++ d.data.toList) := by
  unfold raw16 front16 back16
  simp only [Sp.append_toList, ofB2_list, ofB4_list, List.cons_append, List.nil_append, List.append_assoc]
theorem raw16_size (x p y q sq ac fl wi ur : Int) (o d : ByteArray) : (raw16 x p y q sq ac fl wi ur o d).size = 20 + o.size + d.size := by
  rw [← Sp.size_toList, raw16_list]; simp; omega
theorem bAt_list {s : ByteArray} {l : List UInt8} (h : s.data.toList = l) (k : Nat) : bAt s k = ((l[k]?.getD 0).toNat : Int) := by unfold bAt; rw [h]
/-- What the bytes of a segment with these options say. -/
structure Says16 (s : ByteArray) (p q sq ac fl wi ur : Int) (o d : ByteArray) : Prop where
  size : s.size = 20 + o.size + d.size
  hp : n2 s 0 = p
  hq : n2 s 2 = q
  hsq : n4 s 4 = sq
  hac : n4 s 8 = ac
  hl : hl16 s = 20 + o.size
  hfl : bAt s (Int.toNat 13) = fl
  hwi : n2 s 14 = wi
  hur : n2 s 18 = ur
  ho : s.extract 20 (20 + o.size) = o
  hd : s.extract (20 + o.size) s.size = d
theorem says16 (x p y q sq ac fl wi ur : Int) (o d : ByteArray) (hp : 0 ≤ p ∧ p ≤ 65535) (hq : 0 ≤ q ∧ q ≤ 65535) (hsq : 0 ≤ sq ∧ sq ≤ 4294967295) (hac : 0 ≤ ac ∧ ac ≤ 4294967295) (hfl : 0 ≤ fl ∧ fl ≤ 255) (hwi : 0 ≤ wi ∧ wi ≤ 65535) (hur : 0 ≤ ur ∧ ur ≤ 65535)
    (ho : o.size ≤ 40) (ho4 : o.size % 4 = 0) : Says16 (raw16 x p y q sq ac fl wi ur o d) p q sq ac fl wi ur o d := by
  have hz := raw16_size x p y q sq ac fl wi ur o d
  have hl := raw16_list x p y q sq ac fl wi ur o d
  refine ⟨hz, ?_, ?_, ?_, ?_, ?_, ?_, ?_, ?_, ?_, ?_⟩
  · rw [n2_b _ _ (by omega) (by omega), bAt_list hl, bAt_list hl]
    simp only [show (0 : Int).toNat = 0 from rfl, show ((0 : Int) + 1).toNat = 1 from rfl, List.cons_append, List.getElem?_cons_zero, List.getElem?_cons_succ, Option.getD_some, u8m]; omega
  · rw [n2_b _ _ (by omega) (by omega), bAt_list hl, bAt_list hl]
    simp only [show (2 : Int).toNat = 2 from rfl, show ((2 : Int) + 1).toNat = 3 from rfl, List.cons_append, List.getElem?_cons_zero, List.getElem?_cons_succ, Option.getD_some, u8m]; omega
  · rw [n4_b _ _ (by omega) (by omega), bAt_list hl, bAt_list hl, bAt_list hl, bAt_list hl]
    simp only [show (4 : Int).toNat = 4 from rfl, show ((4 : Int) + 1).toNat = 5 from rfl, show ((4 : Int) + (1 + 1)).toNat = 6 from rfl, show ((4 : Int) + (1 + 1 + 1)).toNat = 7 from rfl, List.cons_append, List.getElem?_cons_zero, List.getElem?_cons_succ, Option.getD_some, u8m]; omega
  · rw [n4_b _ _ (by omega) (by omega), bAt_list hl, bAt_list hl, bAt_list hl, bAt_list hl]
    simp only [show (8 : Int).toNat = 8 from rfl, show ((8 : Int) + 1).toNat = 9 from rfl, show ((8 : Int) + (1 + 1)).toNat = 10 from rfl, show ((8 : Int) + (1 + 1 + 1)).toNat = 11 from rfl, List.cons_append, List.getElem?_cons_zero, List.getElem?_cons_succ, Option.getD_some, u8m]; omega
  · unfold hl16
    rw [bAt_list hl]
    simp only [show Int.toNat 12 = 12 from rfl, List.cons_append, List.getElem?_cons_zero, List.getElem?_cons_succ, Option.getD_some]
    rw [u8i _ (by omega)]; omega
  · rw [bAt_list hl]
    simp only [show Int.toNat 13 = 13 from rfl, List.cons_append, List.getElem?_cons_zero, List.getElem?_cons_succ, Option.getD_some]
    exact u8i _ hfl
  · rw [n2_b _ _ (by omega) (by omega), bAt_list hl, bAt_list hl]
    simp only [show (14 : Int).toNat = 14 from rfl, show ((14 : Int) + 1).toNat = 15 from rfl, List.cons_append, List.getElem?_cons_zero, List.getElem?_cons_succ, Option.getD_some, u8m]; omega
  · rw [n2_b _ _ (by omega) (by omega), bAt_list hl, bAt_list hl]
    simp only [show (18 : Int).toNat = 18 from rfl, show ((18 : Int) + 1).toNat = 19 from rfl, List.cons_append, List.getElem?_cons_zero, List.getElem?_cons_succ, Option.getD_some, u8m]; omega
  · apply ba_ext
    rw [Sp.extract_toList, hl, List.take_append, List.drop_append]
    simp
  · apply ba_ext
    rw [Sp.extract_toList, List.take_of_length_le (by rw [Sp.size_toList]; exact Nat.le_refl _), hl, ← List.append_assoc, List.drop_append]
    have e : 20 + o.size = ([UInt8.ofNat (p / 256 % 256).toNat, UInt8.ofNat (p % 256).toNat, UInt8.ofNat (q / 256 % 256).toNat, UInt8.ofNat (q % 256).toNat,
     UInt8.ofNat (sq / 16777216 % 256).toNat, UInt8.ofNat (sq / 65536 % 256).toNat, UInt8.ofNat (sq / 256 % 256).toNat, UInt8.ofNat (sq % 256).toNat,
     UInt8.ofNat (ac / 16777216 % 256).toNat, UInt8.ofNat (ac / 65536 % 256).toNat, UInt8.ofNat (ac / 256 % 256).toNat, UInt8.ofNat (ac % 256).toNat,
     UInt8.ofNat (16 * ((20 + o.size) / 4 : Int)).toNat, UInt8.ofNat fl.toNat, UInt8.ofNat (wi / 256 % 256).toNat, UInt8.ofNat (wi % 256).toNat,
     UInt8.ofNat (sum16 x p y q sq ac fl wi ur o d / 256 % 256).toNat, UInt8.ofNat (sum16 x p y q sq ac fl wi ur o d % 256).toNat,
     UInt8.ofNat (ur / 256 % 256).toNat, UInt8.ofNat (ur % 256).toNat] ++ o.data.toList).length := by
      simp only [List.length_append, Sp.size_toList, List.length_cons, List.length_nil]
    rw [List.drop_eq_nil_of_le (by omega), e, Nat.sub_self]; simp
/-! the sum -/
theorem head_pos (x y p n : Int) (hp : 0 < p ∧ p ≤ 255) : Sp.sumB (Sp.headB x y p n) ≠ 0 := by
  unfold Sp.headB
  intro h
  rw [Sp.sumB_zero_append _ _ (by simp [ByteArray.size_append, Sp.ofB_size]), Sp.sumB_zero_append _ _ (by simp [ByteArray.size_append, Sp.ofB_size]), Sp.sumB_ofB2 p (by omega) (by omega)] at h
  omega
theorem raw16_sum (x p y q sq ac fl wi ur : Int) (o d : ByteArray) : Sp.sumB (Sp.headB x y 6 (raw16 x p y q sq ac fl wi ur o d).size ++ raw16 x p y q sq ac fl wi ur o d) = 65535 := by
  rw [raw16_size]
  have e : ((20 + o.size + d.size : Nat) : Int) = 20 + o.size + d.size := by omega
  rw [e]
  unfold raw16
  have hF : (front16 p q sq ac fl wi (20 + o.size)).size % 2 = 0 := by simp [front16, ByteArray.size_append, Sp.ofB_size, size_lit]
  rw [app_assoc]
  exact Sp.sum_put _ _ _ _ (by rw [Sp.headB_size]) hF (head_pos x y 6 _ (by omega)) rfl
theorem right_raw (x p y q sq ac fl wi ur : Int) (o d : ByteArray) : right16 x y (raw16 x p y q sq ac fl wi ur o d) = true := by
  unfold right16; rw [raw16_sum]; rfl
theorem dec_right {x y : Int} {s : ByteArray} (h : dec16e x y s = 0) : right16 x y s = true := by
  unfold dec16e at h
  repeat' split at h
  all_goals first | (exfalso; omega) | simp_all
/-- Decode, of a segment's bytes. -/
theorem dec_raw {s : ByteArray} {x y p q sq ac fl wi ur Rm Rs : Int} {o d : ByteArray} (h : Says16 s p q sq ac fl wi ur o d) (hr : right16 x y s = true) (hfl : 0 ≤ fl ∧ fl ≤ 63) (ho : optU (o.size + 1) o 0 (-1) = (Rm, Rs, 0)) :
    dec16e x y s = 0 ∧ dec16 x y s = seg x p y q sq ac fl wi ur (if flag fl 2 then Rm else 0) (if flag fl 2 then Rs else -1) d := by
  have hz := h.size
  have e1 : (hl16 s).toNat = 20 + o.size := by rw [h.hl]; omega
  have e2 : opt16 s = (Rm, Rs, 0) := by unfold opt16; rw [e1, h.ho]; exact ho
  have e3 : fl16 s = fl := by
    unfold fl16
    rw [h.hfl, band_nat IntKind.u8.bits fl 63 hfl.1 (show fl < (256 : Int) by omega) (by decide) (by decide)]
    obtain ⟨k, rfl⟩ := Int.eq_ofNat_of_zero_le hfl.1
    have := Nat.and_two_pow_sub_one_eq_mod k 6
    rw [Int.toNat_natCast, show ((63 : Int).toNat) = 2 ^ 6 - 1 from rfl, this]; omega
  have e4 : dec16e x y s = 0 := by
    unfold dec16e
    rw [if_neg (by omega), h.hl, if_neg (by omega), if_neg (by omega), if_neg (by rw [hr]; simp), e2]
  refine ⟨e4, ?_⟩
  unfold dec16
  rw [if_pos e4, e1, e2, e3, h.hp, h.hq, h.hsq, h.hac, h.hwi, h.hur, h.hd]
/-! options -/
theorem optU_more : ∀ (f : Nat) (u : ByteArray) (ms sc : Int), u.size < f → optU f u ms sc = optU (u.size + 1) u ms sc := by
  have key : ∀ (n : Nat) (u : ByteArray) (ms sc : Int) (f g : Nat), u.size ≤ n → u.size < f → u.size < g → optU f u ms sc = optU g u ms sc := by
    intro n
    induction n with
    | zero =>
      intro u ms sc f g h hf hg
      cases f with
      | zero => omega
      | succ f => cases g with
        | zero => omega
        | succ g => rw [optU, optU, if_pos (by omega), if_pos (by omega)]
    | succ n ih =>
      intro u ms sc f g h hf hg
      cases f with
      | zero => omega
      | succ f => cases g with
        | zero => omega
        | succ g =>
          have b1 := bAt_bd u (Int.toNat 1)
          have i1 : ∀ ms sc, 0 < u.size → optU f (u.extract 1 u.size) ms sc = optU g (u.extract 1 u.size) ms sc := fun ms sc h0 => ih _ ms sc f g (by rw [ByteArray.size_extract]; omega) (by rw [ByteArray.size_extract]; omega) (by rw [ByteArray.size_extract]; omega)
          have i2 : ∀ ms sc, 0 < u.size → 2 ≤ bAt u (Int.toNat 1) → optU f (u.extract (bAt u (Int.toNat 1)).toNat u.size) ms sc = optU g (u.extract (bAt u (Int.toNat 1)).toNat u.size) ms sc := fun ms sc h0 h2 => ih _ ms sc f g (by rw [ByteArray.size_extract]; omega) (by rw [ByteArray.size_extract]; omega) (by rw [ByteArray.size_extract]; omega)
          rw [optU, optU]
          by_cases c1 : u.size = 0
          · rw [if_pos c1, if_pos c1]
          rw [if_neg c1, if_neg c1, i1 ms sc (by omega)]
          by_cases c2 : bAt u (Int.toNat 1) < 2
          · rw [if_pos c2, if_pos c2]
          rw [i2 _ _ (by omega) (by omega), i2 _ _ (by omega) (by omega), i2 _ _ (by omega) (by omega)]
  intro f u ms sc h
  exact key _ u ms sc _ _ (Nat.le_refl _) h (by omega)
def optS (u : ByteArray) (ms sc : Int) : Int × Int × Int := optU (u.size + 1) u ms sc
theorem optS_nil (ms sc : Int) : optS ⟨#[]⟩ ms sc = (ms, sc, 0) := rfl
theorem bAt_left (a b : ByteArray) (k : Nat) (h : k < a.size) : bAt (a ++ b) k = bAt a k := by rw [bAt_bt, bAt_bt]; exact Sp.bt_append_left a b k h
theorem tail_app (a b : ByteArray) (n : Nat) (h : n = a.size) : (a ++ b).extract n (a ++ b).size = b := by
  subst h; rw [ByteArray.size_append]; exact Sp.extract_append_right a b
theorem optS_one (b : ByteArray) (ms sc : Int) : optS (⟨#[1]⟩ ++ b) ms sc = optS b ms sc := by
  unfold optS
  rw [optU, if_neg (by rw [ByteArray.size_append, size_lit]; simp)]
  rw [bAt_left _ _ _ (by decide), if_neg (by decide), if_pos (by decide), tail_app _ _ 1 rfl]
  exact optU_more _ _ _ _ (by rw [ByteArray.size_append, size_lit]; show b.size < 1 + b.size; omega)
/-- An option of another kind: gone over. -/
theorem optS_skip (a b : ByteArray) (ms sc : Int) (h2 : 2 ≤ a.size) (h255 : a.size ≤ 255) (hk : 2 ≤ bAt a (Int.toNat 0)) (hl : bAt a (Int.toNat 1) = a.size) (hn2 : bAt a (Int.toNat 0) = 2 → a.size ≠ 4) (hn3 : bAt a (Int.toNat 0) = 3 → a.size ≠ 3) : optS (a ++ b) ms sc = optS b ms sc := by
  have e0 : bAt (a ++ b) (Int.toNat 0) = bAt a (Int.toNat 0) := bAt_left _ _ _ (show 0 < a.size by omega)
  have e1 : bAt (a ++ b) (Int.toNat 1) = a.size := (bAt_left _ _ _ (show 1 < a.size by omega)).trans hl
  have hz : (a ++ b).size = a.size + b.size := ByteArray.size_append
  unfold optS
  have hx : optU (a ++ b).size b ms sc = optU (b.size + 1) b ms sc := optU_more _ _ _ _ (by omega)
  rw [optU, e0, e1, if_neg (by omega), if_neg (by omega), if_neg (by omega), if_neg (by omega), if_neg (by omega), if_neg (by omega), show ((a.size : Int)).toNat = a.size from rfl, tail_app _ _ _ rfl]
  by_cases c : bAt a (Int.toNat 0) = 2
  · rw [if_pos c, if_neg (by have := hn2 c; omega), hx]
  · rw [if_neg c]
    by_cases c : bAt a (Int.toNat 0) = 3
    · rw [if_pos c, if_neg (by have := hn3 c; omega), hx]
    · rw [if_neg c, hx]
theorem optS_ms (a b : ByteArray) (ms sc v : Int) (h2 : a.size = 4) (hk : bAt a (Int.toNat 0) = 2) (hl : bAt a (Int.toNat 1) = 4) (hv : n2 a 2 = v) : optS (a ++ b) ms sc = optS b v sc := by
  have e0 : bAt (a ++ b) (Int.toNat 0) = 2 := (bAt_left _ _ _ (show 0 < a.size by omega)).trans hk
  have e1 : bAt (a ++ b) (Int.toNat 1) = 4 := (bAt_left _ _ _ (show 1 < a.size by omega)).trans hl
  have hz : (a ++ b).size = a.size + b.size := ByteArray.size_append
  have e2 : n2 (a ++ b) 2 = v := by
    rw [← hv, n2_b _ _ (by omega) (by omega), n2_b _ _ (by omega) (by omega), bAt_left _ _ (Int.toNat 2) (show 2 < a.size by omega), bAt_left _ _ ((2 : Int) + 1).toNat (show ((2 : Int) + 1).toNat < a.size by omega)]
  unfold optS
  have hx : optU (a ++ b).size b v sc = optU (b.size + 1) b v sc := optU_more _ _ _ _ (by omega)
  rw [optU, e0, e1, if_neg (by omega), if_neg (by omega), if_neg (by omega), if_neg (by omega), if_neg (by omega), if_neg (by omega), if_pos rfl, if_pos rfl, show ((4 : Int)).toNat = 4 from rfl, tail_app _ _ 4 h2.symm, e2, hx]
theorem optS_sc (a b : ByteArray) (ms sc v : Int) (h2 : a.size = 3) (hk : bAt a (Int.toNat 0) = 3) (hl : bAt a (Int.toNat 1) = 3) (hv : min (bAt a (Int.toNat 2)) 14 = v) : optS (a ++ b) ms sc = optS b ms v := by
  have e0 : bAt (a ++ b) (Int.toNat 0) = 3 := (bAt_left _ _ _ (show 0 < a.size by omega)).trans hk
  have e1 : bAt (a ++ b) (Int.toNat 1) = 3 := (bAt_left _ _ _ (show 1 < a.size by omega)).trans hl
  have e2 : bAt (a ++ b) (Int.toNat 2) = bAt a (Int.toNat 2) := (bAt_left _ _ _ (show 2 < a.size by omega))
  have hz : (a ++ b).size = a.size + b.size := ByteArray.size_append
  unfold optS
  have hx : optU (a ++ b).size b ms v = optU (b.size + 1) b ms v := optU_more _ _ _ _ (by omega)
  rw [optU, e0, e1, e2, if_neg (by omega), if_neg (by omega), if_neg (by omega), if_neg (by omega), if_neg (by omega), if_neg (by omega), if_neg (by decide), if_pos rfl, if_pos rfl, show ((3 : Int)).toNat = 3 from rfl, tail_app _ _ 3 h2.symm, hv, hx]
theorem optS_opts (ms sc : Int) (hms : 0 ≤ ms ∧ ms ≤ 65535) (hsc : -1 ≤ sc ∧ sc ≤ 14) : optS (opts ms sc) 0 (-1) = (ms, sc, 0) := by
  have hs : optS (if sc ≥ 0 then ⟨#[1, 3, 3]⟩ ++ Sp.ofB sc 1 else ⟨#[]⟩) ms (-1) = (ms, sc, 0) := by
    by_cases c : sc ≥ 0
    · rw [if_pos c, show (⟨#[1, 3, 3]⟩ : ByteArray) ++ Sp.ofB sc 1 = ⟨#[1]⟩ ++ ((⟨#[3, 3]⟩ ++ Sp.ofB sc 1) ++ ⟨#[]⟩) by
        apply ba_ext; simp only [Sp.append_toList]; simp, optS_one]
      rw [optS_sc _ _ ms (-1) sc (by simp [ByteArray.size_append, size_lit, Sp.ofB_size]) (bAt_left _ _ _ (by decide)) (bAt_left _ _ _ (by decide)) ?_, optS_nil]
      rw [bAt_list (l := [3, 3, UInt8.ofNat (sc % 256).toNat]) (by rw [Sp.append_toList, ofB1_list]; rfl)]
      simp only [show Int.toNat 2 = 2 from rfl, List.getElem?_cons_zero, List.getElem?_cons_succ, Option.getD_some, u8m]; omega
    · rw [if_neg c, optS_nil]; congr 2; omega
  unfold opts
  by_cases c : ms > 0
  · rw [if_pos c]
    have e : n2 (⟨#[2, 4]⟩ ++ Sp.ofB ms 2) 2 = ms := by
      have hl : ((⟨#[2, 4]⟩ : ByteArray) ++ Sp.ofB ms 2).data.toList = [2, 4, UInt8.ofNat (ms / 256 % 256).toNat, UInt8.ofNat (ms % 256).toNat] := by rw [Sp.append_toList, ofB2_list]; rfl
      rw [n2_b _ _ (by omega) (by simp [ByteArray.size_append, size_lit, Sp.ofB_size]), bAt_list hl, bAt_list hl]
      simp only [show (2 : Int).toNat = 2 from rfl, show ((2 : Int) + 1).toNat = 3 from rfl, List.getElem?_cons_zero, List.getElem?_cons_succ, Option.getD_some, u8m]; omega
    rw [optS_ms _ _ 0 (-1) ms (by simp [ByteArray.size_append, size_lit, Sp.ofB_size]) (bAt_left _ _ _ (by decide)) (bAt_left _ _ _ (by decide)) e]
    exact hs
  · rw [if_neg c, nil_app]
    have : ms = 0 := by omega
    subst this
    exact hs
end L16
end Go.Proofs.Ytlpeefemffmpmaa.VM
