/- Law 6, in plain Lean: texts are read as they were written; masks; orders. -/
import Derived.Test.YtnikpanebkknfaaDoorV06b
namespace Go.Proofs.YtnikpanebkknfaaDoor.VM
namespace G4
open Go.RowKit
set_option linter.unusedVariables false
set_option linter.unusedSimpArgs false
/-! words -/
def wordsL (l : List UInt8) : List (List UInt8) := Lib.splitK [46] 0 (Lib.count l [46]) l
theorem wordsB_data (s : ByteArray) : (wordsB s).map (·.data.toList) = wordsL s.data.toList := Lib.splitB_data _ _ _ _
theorem index_no : ∀ {a : List UInt8}, (46 : UInt8) ∉ a → Lib.index a [46] = -1
  | [], _ => by simp [Lib.index]
  | b :: a, h => by
    simp only [List.mem_cons, not_or] at h
    rw [Lib.index, index_no h.2]
    simp [List.isPrefixOf, h.1]
theorem index_at : ∀ {a : List UInt8} {r : List UInt8}, (46 : UInt8) ∉ a → Lib.index (a ++ 46 :: r) [46] = a.length
  | [], r, _ => by simp [Lib.index, List.isPrefixOf]
  | b :: a, r, h => by
    simp only [List.mem_cons, not_or] at h
    have ih := index_at (r := r) h.2
    rw [List.cons_append, Lib.index, ih]
    have : ¬ ((a.length : Int) == -1) = true := by simp
    simp [List.isPrefixOf, h.1, this]
theorem words_one {a : List UInt8} (h : (46 : UInt8) ∉ a) : wordsL a = [a] := by
  unfold wordsL
  rw [Lib.count_miss (index_no h)]; rfl
theorem words_more {a r : List UInt8} (h : (46 : UInt8) ∉ a) : wordsL (a ++ 46 :: r) = a :: wordsL r := by
  have hx := index_at (r := r) h
  have hd : (a ++ 46 :: r).drop (a.length + 1) = r := by
    rw [List.drop_append]; simp
  unfold wordsL
  rw [Lib.count_hit (by simp) hx]
  show Lib.splitK [46] 0 (1 + Lib.count ((a ++ 46 :: r).drop (a.length + 1)) [46]) _ = _
  rw [hd, Nat.add_comm, Lib.splitK, hx]
  have : ¬ ((a.length : Int) == -1) = true := by simp
  rw [if_neg this]
  simp only [Int.toNat_natCast, Nat.add_zero, List.length_singleton, hd]
  rw [List.take_left]
/-- A number's digits. -/
theorem itoa_forms {n : Int} (h : 0 ≤ n ∧ n ≤ 255) : ∃ a b c : Nat, a < 10 ∧ b < 10 ∧ c < 10 ∧ ((itoaB n).data.toList = [UInt8.ofNat (48 + c)] ∧ n = c ∨ (itoaB n).data.toList = [UInt8.ofNat (48 + b), UInt8.ofNat (48 + c)] ∧ n = b * 10 + c ∨ (itoaB n).data.toList = [UInt8.ofNat (48 + a), UInt8.ofNat (48 + b), UInt8.ofNat (48 + c)] ∧ n = (a * 10 + b) * 10 + c) := by
  obtain ⟨k, rfl⟩ := Int.eq_ofNat_of_zero_le h.1
  by_cases h1 : (k : Int) ≤ 9
  · refine ⟨0, 0, k, by omega, by omega, by omega, .inl ⟨?_, rfl⟩⟩
    rw [itoa1 ⟨by omega, h1⟩, show (48 + (k : Int)).toNat = 48 + k by omega]
  · by_cases h2 : (k : Int) ≤ 99
    · refine ⟨0, k / 10, k % 10, by omega, by omega, by omega, .inr (.inl ⟨?_, by omega⟩)⟩
      rw [itoa2 (by omega), show (48 + (k : Int) / 10).toNat = 48 + k / 10 by omega, show (48 + (k : Int) % 10).toNat = 48 + k % 10 by omega]
      simp
    · refine ⟨k / 10 / 10, k / 10 % 10, k % 10, by omega, by omega, by omega, .inr (.inr ⟨?_, by omega⟩)⟩
      rw [itoa3 (by omega), show (48 + (k : Int) / 10 / 10).toNat = 48 + k / 10 / 10 by omega, show (48 + (k : Int) / 10 % 10).toNat = 48 + k / 10 % 10 by omega, show (48 + (k : Int) % 10).toNat = 48 + k % 10 by omega]
      simp
theorem dig_nat {c : Nat} (h : c < 10) : (UInt8.ofNat (48 + c)).toNat = 48 + c := by rw [UInt8.toNat_ofNat_of_lt' (by show _ < 256; omega)]
theorem dig_ne {c : Nat} (h : c < 10) : (46 : UInt8) ≠ UInt8.ofNat (48 + c) := fun e => by
  have := congrArg UInt8.toNat e
  rw [dig_nat h] at this
  have e46 : (46 : UInt8).toNat = 46 := rfl
  omega
theorem itoa_nodot {n : Int} (h : 0 ≤ n ∧ n ≤ 255) : (46 : UInt8) ∉ (itoaB n).data.toList := by
  obtain ⟨a, b, c, ha, hb, hc, ⟨e, _⟩ | ⟨e, _⟩ | ⟨e, _⟩⟩ := itoa_forms h <;> rw [e] <;> simp only [List.mem_cons, List.not_mem_nil, or_false, not_or]
  · exact dig_ne hc
  · exact ⟨dig_ne hb, dig_ne hc⟩
  · exact ⟨dig_ne ha, dig_ne hb, dig_ne hc⟩
theorem pu8_itoa {n : Int} (h : 0 ≤ n ∧ n ≤ 255) : (pu8 (itoaB n) : Int) = n := by
  obtain ⟨a, b, c, ha, hb, hc, ⟨e, hn⟩ | ⟨e, hn⟩ | ⟨e, hn⟩⟩ := itoa_forms h <;> unfold pu8 Lib.parseUintB <;> rw [e, if_neg (by simp)] <;> simp only [Lib.parseUintM, dig_nat ha, dig_nat hb, dig_nat hc] <;>
    (repeat' (first | rw [if_pos (by omega)] | rw [if_neg (by omega)])) <;> simp only [] <;> omega
theorem textB_data (ip : Int) : (textB ip).data.toList = (itoaB (ip / 16777216)).data.toList ++ 46 :: ((itoaB (ip / 65536 % 256)).data.toList ++ 46 :: ((itoaB (ip / 256 % 256)).data.toList ++ 46 :: (itoaB (ip % 256)).data.toList)) := by
  unfold textB; rw [join4]; simp [dotB]
theorem words_text {ip : Int} (h : 0 ≤ ip ∧ ip ≤ 4294967295) : wordsB (textB ip) = [itoaB (ip / 16777216), itoaB (ip / 65536 % 256), itoaB (ip / 256 % 256), itoaB (ip % 256)] := by
  have e := wordsB_data (textB ip)
  rw [textB_data, words_more (itoa_nodot (by omega)), words_more (itoa_nodot (by omega)), words_more (itoa_nodot (by omega)), words_one (itoa_nodot (by omega))] at e
  have inj : ∀ (l m : List ByteArray), l.map (·.data.toList) = m.map (·.data.toList) → l = m := by
    intro l
    induction l with
    | nil => intro m h; cases m with
      | nil => rfl
      | cons _ _ => simp at h
    | cons x l ih => intro m h; cases m with
      | nil => simp at h
      | cons y m =>
        simp only [List.map_cons, List.cons.injEq] at h
        rw [ih m h.2, ByteArray.ext (Array.toList_inj.1 h.1)]
  exact inj _ _ (by rw [e]; rfl)
theorem pA_text {ip : Int} (h : 0 ≤ ip ∧ ip ≤ 4294967295) : pA (textB ip) = ip := by
  unfold pA
  rw [words_text h]
  simp only [List.foldl_cons, List.foldl_nil, stA]
  rw [pu8_itoa (by omega), pu8_itoa (by omega), pu8_itoa (by omega), pu8_itoa (by omega)]
  omega
theorem foldR_itoa {n ip : Int} (h : 0 ≤ n ∧ n ≤ 255) : (itoaB n).data.toList.foldl stR (ip, 0) = (ip, n) := by
  obtain ⟨a, b, c, ha, hb, hc, ⟨e, hn⟩ | ⟨e, hn⟩ | ⟨e, hn⟩⟩ := itoa_forms h <;> rw [e] <;> simp only [List.foldl_cons, List.foldl_nil, stR, dig_nat ha, dig_nat hb, dig_nat hc] <;>
    (repeat' (first | rw [if_pos (by omega)] | rw [if_neg (by omega)])) <;> exact Prod.ext rfl (by show _ = _; omega)
theorem stR_dot (ip n : Int) : stR (ip, n) 46 = (ip * 256 % 4294967296 + n % 256, 0) := rfl
theorem pR_text {ip : Int} (h : 0 ≤ ip ∧ ip ≤ 4294967295) : pR (textB ip) = ip := by
  unfold pR
  rw [textB_data]
  simp only [List.foldl_append, List.foldl_cons]
  rw [foldR_itoa (by omega), stR_dot, foldR_itoa (by omega), stR_dot, foldR_itoa (by omega), stR_dot, foldR_itoa (by omega)]
  unfold finR
  simp only []
  omega
theorem foldR_bd (l : List UInt8) : ∀ p : Int × Int, (0 ≤ p.1 ∧ p.1 ≤ 4294967295) → 0 ≤ (l.foldl stR p).1 ∧ (l.foldl stR p).1 ≤ 4294967295 := by
  induction l with
  | nil => intro p h; exact h
  | cons c l ih =>
    intro p h
    refine ih _ ?_
    unfold stR
    split
    · show 0 ≤ _ ∧ _ ≤ _; omega
    · exact h
theorem pR_bd (s : ByteArray) : 0 ≤ pR s ∧ pR s ≤ 4294967295 := by unfold pR finR; omega
theorem pA_bd (s : ByteArray) : 0 ≤ pA s ∧ pA s ≤ 4294967295 := foldA_bd _
theorem same_parse (s : ByteArray) : valR s = valA s ∧ errR s = errA s := by
  have h1 : textB (pA s) = s → pR s = pA s := fun e => by
    have := pR_text (pA_bd s); rw [e] at this; exact this
  have h2 : textB (pR s) = s → pA s = pR s := fun e => by
    have := pA_text (pR_bd s); rw [e] at this; exact this
  unfold valR valA errR errA
  by_cases a : textB (pA s) = s
  · have e := h1 a
    rw [e, if_pos a, if_pos a]; exact ⟨rfl, rfl⟩
  · by_cases b : textB (pR s) = s
    · exact absurd (by rw [h2 b]; exact b) a
    · rw [if_neg a, if_neg b, if_neg a, if_neg b]; exact ⟨rfl, rfl⟩
theorem val_text {ip : Int} (h : 0 ≤ ip ∧ ip ≤ 4294967295) : valA (textB ip) = ip ∧ errA (textB ip) = 0 := by
  unfold valA errA
  rw [pA_text h, if_pos rfl, if_pos rfl]; exact ⟨rfl, rfl⟩
theorem text_inj {a b : Int} (ha : 0 ≤ a ∧ a ≤ 4294967295) (hb : 0 ≤ b ∧ b ≤ 4294967295) : textB a = textB b ↔ a = b := by
  constructor
  · intro e
    have h1 := pA_text ha
    rw [e, pA_text hb] at h1; exact h1.symm
  · rintro rfl; rfl
theorem valA_bd (s : ByteArray) : 0 ≤ valA s ∧ valA s ≤ 4294967295 := by
  have := pA_bd s
  unfold valA; split <;> omega
theorem val_back {s : ByteArray} (h : errA s = 0) : textB (valA s) = s := by
  unfold errA at h
  unfold valA
  split at h
  · rename_i e; rw [if_pos e]; exact e
  · cases h
/-! orders -/
theorem cmp_less : ∀ (a b : List UInt8), (Lib.compareBytes a b = -1 ↔ Op.bytesLess a b = true) ∧ (Lib.compareBytes a b = 1 ↔ Op.bytesLess b a = true) ∧ (Lib.compareBytes a b = 0 ↔ a = b) ∧ (Lib.compareBytes a b = -1 ∨ Lib.compareBytes a b = 0 ∨ Lib.compareBytes a b = 1)
  | [], [] => by simp [Lib.compareBytes, Op.bytesLess]
  | [], _ :: _ => by simp [Lib.compareBytes, Op.bytesLess]
  | _ :: _, [] => by simp [Lib.compareBytes, Op.bytesLess]
  | a :: x, b :: y => by
    have ih := cmp_less x y
    simp only [Lib.compareBytes, Op.bytesLess]
    by_cases h1 : a < b
    · have h2 : ¬ b < a := fun h => absurd (UInt8.lt_trans h1 h) (UInt8.lt_irrefl _)
      have h3 : ¬ a = b := fun h => by subst h; exact UInt8.lt_irrefl _ h1
      simp [h1, h2, h3, Ne.symm h3, fun e : b = a => h3 e.symm]
    · by_cases h2 : b < a
      · have h3 : ¬ a = b := fun h => by subst h; exact UInt8.lt_irrefl _ h2
        have h4 : ¬ b = a := fun e => h3 e.symm
        simp [h1, h2, h3, h4]
      · have h3 : a = b := UInt8.le_antisymm (UInt8.not_lt.1 h2) (UInt8.not_lt.1 h1)
        subst h3
        simp [h1]
        exact ih
theorem cmp_trans : ∀ (a b c : List UInt8), Lib.compareBytes a b ≤ 0 → Lib.compareBytes b c ≤ 0 → Lib.compareBytes a c ≤ 0
  | [], _, [], _, _ => by simp [Lib.compareBytes]
  | [], _, _ :: _, _, _ => by simp [Lib.compareBytes]
  | _ :: _, [], _, h, _ => by simp [Lib.compareBytes] at h
  | _ :: _, _ :: _, [], _, h => by simp [Lib.compareBytes] at h
  | a :: x, b :: y, c :: z, h1, h2 => by
    simp only [Lib.compareBytes] at h1 h2 ⊢
    by_cases p1 : a < b
    · by_cases p2 : b < c
      · rw [if_pos (UInt8.lt_trans p1 p2)]; decide
      · rw [if_neg p2] at h2
        by_cases p3 : c < b
        · rw [if_pos p3] at h2; omega
        · have e : b = c := UInt8.le_antisymm (UInt8.not_lt.1 p3) (UInt8.not_lt.1 p2)
          subst e
          rw [if_pos p1]; decide
    · rw [if_neg p1] at h1
      by_cases p3 : b < a
      · rw [if_pos p3] at h1; omega
      · have e : a = b := UInt8.le_antisymm (UInt8.not_lt.1 p3) (UInt8.not_lt.1 p1)
        subst e
        rw [if_neg p3] at h1
        by_cases p2 : a < c
        · rw [if_pos p2]; decide
        · rw [if_neg p2] at h2 ⊢
          by_cases p4 : c < a
          · rw [if_pos p4] at h2; omega
          · rw [if_neg p4] at h2 ⊢
            exact cmp_trans x y z h1 h2
end G4
end Go.Proofs.YtnikpanebkknfaaDoor.VM
