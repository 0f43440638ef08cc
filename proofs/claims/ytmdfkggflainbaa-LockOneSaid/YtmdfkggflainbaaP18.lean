/- Law 18, in plain Lean: what locks are. -/
import Derived.Test.YtmdfkggflainbaaVi
namespace Go.Proofs.Ytmdfkggflainbaa.VM
namespace G5
set_option linter.unusedVariables false
set_option linter.unusedSimpArgs false
/-- Locks: who owns each, what each core has, how often each spun. -/
structure LS where
  own : List Int
  of_ : Nat → Int
  sp : Nat → Int
def upd (f : Nat → Int) (k : Nat) (v : Int) : Nat → Int := fun j => if j = k then v else f j
def LS.at (s : LS) (L : Int) : Int := s.own.getD L.toNat (-1)
def inN (n : Nat) (L C : Int) : Prop := 0 ≤ L ∧ L < n ∧ 0 ≤ C ∧ C < 8
instance (n : Nat) (L C : Int) : Decidable (inN n L C) := inferInstanceAs (Decidable (_ ∧ _))
def tryA (s : LS) (L C : Int) : Int := if ¬ inN s.own.length L C then 0 else if s.at L = C then 2 else if 0 ≤ s.of_ C.toNat then 0 else if 0 ≤ s.at L then 0 else 1
def tryE (s : LS) (L C : Int) : Int := if ¬ inN s.own.length L C then 2 else if s.at L = C then 0 else if 0 ≤ s.of_ C.toNat then 3 else 0
def tryS (s : LS) (L C : Int) : LS := if ¬ inN s.own.length L C then s else if s.at L = C then s else if 0 ≤ s.of_ C.toNat then s
  else if 0 ≤ s.at L then ⟨s.own, s.of_, upd s.sp C.toNat (IntKind.u64.wrap (s.sp C.toNat + 1))⟩ else ⟨s.own.set L.toNat C, upd s.of_ C.toNat L, s.sp⟩
def freeE (s : LS) (L C : Int) : Int := if ¬ inN s.own.length L C then 2 else if s.at L = C then 0 else 3
def freeS (s : LS) (L C : Int) : LS := if ¬ inN s.own.length L C then s else if s.at L = C then ⟨s.own.set L.toNat (-1), upd s.of_ C.toNat (-1), s.sp⟩ else s
structure Inv (n : Nat) (s : LS) : Prop where
  len : s.own.length = n
  own : ∀ k, k < n → -1 ≤ s.own.getD k (-1) ∧ s.own.getD k (-1) < 8
  has : ∀ c : Nat, c < 8 → (s.of_ c = -1 ∧ ∀ k, k < n → s.own.getD k (-1) ≠ c) ∨ (0 ≤ s.of_ c ∧ s.of_ c < n ∧ s.own.getD (s.of_ c).toNat (-1) = c ∧ ∀ k, k < n → s.own.getD k (-1) = c → (k : Int) = s.of_ c)
  sp : ∀ c, c < 8 → 0 ≤ s.sp c ∧ s.sp c ≤ 18446744073709551615
def new (n : Nat) : LS := ⟨List.replicate n (-1), fun _ => -1, fun _ => 0⟩
theorem getD_rep (n k : Nat) : (List.replicate n (-1 : Int)).getD k (-1) = -1 := by
  by_cases h : k < n
  · rw [getD_at (by simpa using h)]; simp
  · rw [getD_out (by simpa using h)]
theorem inv_new (n : Nat) : Inv n (new n) where
  len := by simp [new]
  own := fun k hk => by show -1 ≤ (List.replicate n (-1 : Int)).getD k (-1) ∧ (List.replicate n (-1 : Int)).getD k (-1) < 8; rw [getD_rep]; omega
  has := fun c hc => .inl ⟨rfl, fun k hk => by show (List.replicate n (-1 : Int)).getD k (-1) ≠ c; rw [getD_rep]; omega⟩
  sp := fun c hc => by show (0 : Int) ≤ 0 ∧ (0 : Int) ≤ _; omega
theorem getD_set (l : List Int) (i j : Nat) (v : Int) (h : i < l.length) : (l.set i v).getD j (-1) = if j = i then v else l.getD j (-1) := by
  simp only [List.getD_eq_getElem?_getD, List.getElem?_set]
  by_cases e : i = j
  · subst e; simp [h]
  · rw [if_neg e, if_neg (fun h => e h.symm)]
theorem inv_try {n : Nat} {s : LS} (h : Inv n s) (L C : Int) : Inv n (tryS s L C) := by
  unfold tryS
  split
  · exact h
  · rename_i hin
    split
    · exact h
    · rename_i hne
      split
      · exact h
      · rename_i hof
        have hin : inN s.own.length L C := by simpa using hin
        obtain ⟨a1, a2, a3, a4⟩ := hin
        have hl := h.len
        split
        · refine ⟨h.len, h.own, h.has, fun c hc => ?_⟩
          show 0 ≤ upd s.sp C.toNat _ c ∧ upd s.sp C.toNat _ c ≤ _
          have := h.sp c hc
          have hw : 0 ≤ IntKind.u64.wrap (s.sp C.toNat + 1) ∧ IntKind.u64.wrap (s.sp C.toNat + 1) ≤ 18446744073709551615 := by rw [IntKind.wrap_u64]; omega
          unfold upd; split <;> omega
        · rename_i hat
          have hi : L.toNat < s.own.length := by omega
          obtain ⟨c0, hc0⟩ := Int.eq_ofNat_of_zero_le a3
          subst hc0
          have hcn : ((c0 : Nat) : Int).toNat = c0 := rfl
          simp only [Int.toNat_natCast] at *
          have hfree := (h.has c0 (by omega)).resolve_right (fun hh => hof hh.1)
          refine ⟨by simpa using h.len, fun k hk => ?_, fun c hc => ?_, h.sp⟩
          · show -1 ≤ (s.own.set L.toNat c0).getD k (-1) ∧ (s.own.set L.toNat c0).getD k (-1) < 8
            rw [getD_set _ _ _ _ hi]; have := h.own k hk; split <;> omega
          · show (upd s.of_ c0 L c = -1 ∧ ∀ k, k < n → (s.own.set L.toNat c0).getD k (-1) ≠ c) ∨ (0 ≤ upd s.of_ c0 L c ∧ upd s.of_ c0 L c < n ∧ (s.own.set L.toNat c0).getD (upd s.of_ c0 L c).toNat (-1) = c ∧ ∀ k, k < n → (s.own.set L.toNat c0).getD k (-1) = c → (k : Int) = upd s.of_ c0 L c)
            by_cases e : c = c0
            · subst e
              refine .inr ?_
              have e1 : upd s.of_ c L c = L := by unfold upd; rw [if_pos rfl]
              rw [e1]
              refine ⟨by omega, by omega, ?_, fun k hk hkc => ?_⟩
              · rw [getD_set _ _ _ _ hi, if_pos rfl]
              · rw [getD_set _ _ _ _ hi] at hkc
                split at hkc
                · omega
                · exact absurd hkc (hfree.2 k hk)
            · have e1 : upd s.of_ c0 L c = s.of_ c := by unfold upd; rw [if_neg e]
              rw [e1]
              have hLn : s.own.getD L.toNat (-1) < 0 := by have : ¬ 0 ≤ s.at L := hat; unfold LS.at at this; omega
              rcases h.has c hc with ⟨x, y⟩ | ⟨x1, x2, x3, x4⟩
              · refine .inl ⟨x, fun k hk => ?_⟩
                rw [getD_set _ _ _ _ hi]
                split
                · omega
                · exact y k hk
              · refine .inr ⟨x1, x2, ?_, fun k hk hkc => ?_⟩
                · rw [getD_set _ _ _ _ hi, if_neg (fun e => by rw [e] at x3; omega)]; exact x3
                · rw [getD_set _ _ _ _ hi] at hkc
                  split at hkc
                  · omega
                  · exact x4 k hk hkc
theorem inv_free {n : Nat} {s : LS} (h : Inv n s) (L C : Int) : Inv n (freeS s L C) := by
  unfold freeS
  split
  · exact h
  · rename_i hin
    split
    · rename_i hat
      have hin : inN s.own.length L C := by simpa using hin
      obtain ⟨a1, a2, a3, a4⟩ := hin
      have hl := h.len
      have hi : L.toNat < s.own.length := by omega
      obtain ⟨c0, hc0⟩ := Int.eq_ofNat_of_zero_le a3
      subst hc0
      simp only [Int.toNat_natCast] at *
      have hat' : s.own.getD L.toNat (-1) = c0 := hat
      have hmine := (h.has c0 (by omega)).resolve_left (fun hh => hh.2 L.toNat (by omega) hat')
      have hL : L = s.of_ c0 := by have := hmine.2.2.2 L.toNat (by omega) hat'; omega
      refine ⟨by simpa using h.len, fun k hk => ?_, fun c hc => ?_, h.sp⟩
      · show -1 ≤ (s.own.set L.toNat (-1)).getD k (-1) ∧ (s.own.set L.toNat (-1)).getD k (-1) < 8
        rw [getD_set _ _ _ _ hi]; have := h.own k hk; split <;> omega
      · show (upd s.of_ c0 (-1) c = -1 ∧ ∀ k, k < n → (s.own.set L.toNat (-1)).getD k (-1) ≠ c) ∨ (0 ≤ upd s.of_ c0 (-1) c ∧ upd s.of_ c0 (-1) c < n ∧ (s.own.set L.toNat (-1)).getD (upd s.of_ c0 (-1) c).toNat (-1) = c ∧ ∀ k, k < n → (s.own.set L.toNat (-1)).getD k (-1) = c → (k : Int) = upd s.of_ c0 (-1) c)
        by_cases e : c = c0
        · subst e
          refine .inl ⟨by unfold upd; rw [if_pos rfl], fun k hk => ?_⟩
          rw [getD_set _ _ _ _ hi]
          split
          · omega
          · rename_i hkL
            exact fun hkc => hkL (by have := hmine.2.2.2 k hk hkc; omega)
        · have e1 : upd s.of_ c0 (-1) c = s.of_ c := by unfold upd; rw [if_neg e]
          rw [e1]
          rcases h.has c hc with ⟨x, y⟩ | ⟨x1, x2, x3, x4⟩
          · refine .inl ⟨x, fun k hk => ?_⟩
            rw [getD_set _ _ _ _ hi]
            split
            · omega
            · exact y k hk
          · refine .inr ⟨x1, x2, ?_, fun k hk hkc => ?_⟩
            · rw [getD_set _ _ _ _ hi, if_neg (fun e => by rw [e, hat'] at x3; omega)]; exact x3
            · rw [getD_set _ _ _ _ hi] at hkc
              split at hkc
              · omega
              · exact x4 k hk hkc
    · exact h
end G5
end Go.Proofs.Ytmdfkggflainbaa.VM
