/- Law 18, in plain Lean: the owners that a law keeps in a map. -/
import Derived.Test.YtmdfkggflainbaaV18g
namespace Go.Proofs.Ytmdfkggflainbaa.VM
namespace G5
open Go.RowKit
set_option linter.unusedVariables false
set_option linter.unusedSimpArgs false
/-- A map's entries: key, value, when. -/
abbrev E3 := Int × Int × Nat
abbrev entOf (x : E3) : MEnt := ⟨.o (.int .i64 x.1), .o (.int .i64 x.2.1), x.2.2⟩
def entsOf (l : List E3) : List MEnt := l.map entOf
theorem eqK_i64 (a b : Int) : eqK false [.int .i64] (.o (.int .i64 a)) (.o (.int .i64 b)) = some (a == b) := by
  simp [eqK, eqCells]
def getE (l : List E3) (k : Int) : Option Int := (l.find? (fun x => k == x.1)).map (·.2.1)
theorem mfind_ents (l : List E3) (k : Int) : mfind false [.int .i64] (.o (.int .i64 k)) (entsOf l) = some ((getE l k).map fun v => PV.o (.int .i64 v)) := by
  induction l with
  | nil => rfl
  | cons x l ih =>
    show (match eqK false [.int .i64] (.o (.int .i64 k)) (.o (.int .i64 x.1)) with
      | some true => some (some (PV.o (.int .i64 x.2.1)))
      | some false => mfind false [.int .i64] (.o (.int .i64 k)) (entsOf l)
      | none => none : Option (Option PV)) = _
    rw [eqK_i64]
    unfold getE
    rw [List.find?_cons]
    cases h : k == x.1 with
    | true => rfl
    | false => exact ih
def putE (k v : Int) : List E3 → Nat → List E3 × Nat
  | [], c => ([(k, v, c)], c + 1)
  | x :: l, c => if k == x.1 then ((k, v, x.2.2) :: l, c) else ((x :: (putE k v l c).1), (putE k v l c).2)
theorem mput_ents (k v : Int) : ∀ (l : List E3) (c : Nat), mput false [.int .i64] (.o (.int .i64 k)) (.o (.int .i64 v)) (entsOf l) c = some (entsOf (putE k v l c).1, (putE k v l c).2)
  | [], c => rfl
  | x :: l, c => by
    show (match eqK false [.int .i64] (.o (.int .i64 k)) (.o (.int .i64 x.1)) with
      | some true => some ((⟨.o (.int .i64 k), .o (.int .i64 v), x.2.2⟩ : MEnt) :: entsOf l, c)
      | some false => (match mput false [.int .i64] (.o (.int .i64 k)) (.o (.int .i64 v)) (entsOf l) c with
        | some (es', c') => some (entOf x :: es', c')
        | none => none)
      | none => none) = _
    rw [eqK_i64, mput_ents k v l c, putE]
    cases h : k == x.1 with
    | true => rfl
    | false => rfl
/-- What the map says of locks: owner and 1, or 0. -/
structure WInv (n : Nat) (own : List Int) (l : List E3) (c : Nat) : Prop where
  len : own.length = n
  val : ∀ x ∈ l, 0 ≤ x.1 ∧ x.1 < n ∧ x.2.1 = own.getD x.1.toNat (-1) + 1
  out : ∀ k : Nat, k < n → (∀ x ∈ l, x.1 ≠ k) → own.getD k (-1) = -1
  keys : (l.map (·.1)).Nodup
  borns : (l.map (·.2.2)).Nodup
  low : ∀ x ∈ l, x.2.2 < c
def gv (n : Nat) (own : List Int) (L : Int) : Int := if 0 ≤ L ∧ L < n then own.getD L.toNat (-1) + 1 else 0
theorem winv_new (n : Nat) : WInv n (List.replicate n (-1)) [] 0 where
  len := by simp
  val := fun x hx => by cases hx
  out := fun k hk _ => getD_rep n k
  keys := List.nodup_nil
  borns := List.nodup_nil
  low := fun x hx => by cases hx
theorem get_val {n : Nat} {own : List Int} {l : List E3} {c : Nat} (h : WInv n own l c) (L : Int) : getE l L = some (gv n own L) ∨ getE l L = none ∧ gv n own L = 0 := by
  unfold getE
  cases hf : l.find? (fun x => L == x.1) with
  | some x =>
    have hx := List.mem_of_find?_eq_some hf
    have he : L = x.1 := by have := List.find?_some hf; simpa using this
    obtain ⟨h1, h2, h3⟩ := h.val x hx
    refine .inl ?_
    unfold gv
    rw [he, if_pos ⟨h1, h2⟩, Option.map_some, h3]
  | none =>
    refine .inr ⟨rfl, ?_⟩
    have hno : ∀ x ∈ l, ¬ L = x.1 := by
      intro x hx e
      have := List.find?_eq_none.1 hf x hx
      simp [e] at this
    unfold gv
    split
    · rename_i hr
      have := h.out L.toNat (by omega) (fun x hx e => hno x hx (by omega))
      omega
    · rfl
theorem LookM.own {n : Nat} {own : List Int} {l : List E3} {c : Nat} (h : WInv n own l c) (L : Int) {F : V → Prop} (g : F (.p (.o (.int .i64 (gv n own L))))) :
    LookM false [.int .i64] (entsOf l) (.o (.int .i64 L)) (fun r => (mres false (.o (.int .i64 0)) r).force F) := by
  refine ⟨_, mfind_ents l L, ?_⟩
  rw [V.force_eq]
  rcases get_val h L with e | ⟨e, e0⟩
  · rw [e]; exact g
  · rw [e]; rw [e0] at g; exact g
theorem put_mem {k v : Int} : ∀ {l : List E3} {c : Nat} {x : E3}, x ∈ (putE k v l c).1 → x ∈ l ∧ x.1 ≠ k ∨ x.1 = k ∧ x.2.1 = v ∨ x ∈ l := by
  intro l; induction l with
  | nil => intro c x hx; simp [putE] at hx; subst hx; exact .inr (.inl ⟨rfl, rfl⟩)
  | cons y l ih =>
    intro c x hx
    rw [putE] at hx
    split at hx
    · rcases List.mem_cons.1 hx with rfl | hx
      · exact .inr (.inl ⟨rfl, rfl⟩)
      · exact .inr (.inr (by simp [hx]))
    · rcases List.mem_cons.1 hx with rfl | hx
      · exact .inr (.inr (by simp))
      · rcases ih hx with h | h | h
        · exact .inr (.inr (by simp [h.1]))
        · exact .inr (.inl h)
        · exact .inr (.inr (by simp [h]))
theorem put_keys {k v : Int} : ∀ {l : List E3} {c : Nat}, (putE k v l c).1.map (·.1) = if k ∈ l.map (·.1) then l.map (·.1) else l.map (·.1) ++ [k] := by
  intro l; induction l with
  | nil => intro c; simp [putE]
  | cons y l ih =>
    intro c
    rw [putE]
    split
    · rename_i he
      have he : k = y.1 := by simpa using he
      rw [if_pos (by simp [he])]; simp [he]
    · rename_i he
      have he : ¬ k = y.1 := by simpa using he
      simp only [List.map_cons, ih (c := c)]
      by_cases hk : k ∈ l.map (·.1)
      · rw [if_pos hk, if_pos (by simp [hk])]
      · rw [if_neg hk, if_neg (by simp only [List.mem_cons]; exact fun h => h.elim he hk)]; rfl
theorem put_val {k v : Int} : ∀ {l : List E3} {c : Nat}, (l.map (·.1)).Nodup → ∀ x ∈ (putE k v l c).1, x.1 = k → x.2.1 = v := by
  intro l; induction l with
  | nil => intro c _ x hx _; simp [putE] at hx; subst hx; rfl
  | cons y l ih =>
    intro c hn x hx hk
    rw [List.map_cons, List.nodup_cons] at hn
    rw [putE] at hx
    split at hx
    · rename_i he
      have he : k = y.1 := by simpa using he
      rcases List.mem_cons.1 hx with rfl | hx
      · rfl
      · exact absurd (List.mem_map.2 ⟨x, hx, by rw [hk, he]⟩) hn.1
    · rename_i he
      have he : ¬ k = y.1 := by simpa using he
      rcases List.mem_cons.1 hx with rfl | hx
      · exact absurd hk.symm he
      · exact ih hn.2 x hx hk
theorem put_borns {k v : Int} : ∀ {l : List E3} {c : Nat}, (∀ x ∈ l, x.2.2 < c) → (l.map (·.2.2)).Nodup → ((putE k v l c).1.map (·.2.2)).Nodup ∧ (∀ x ∈ (putE k v l c).1, x.2.2 < (putE k v l c).2) ∧ c ≤ (putE k v l c).2 ∧ (∀ b ∈ (putE k v l c).1.map (·.2.2), b ∈ l.map (·.2.2) ∨ b = c) := by
  intro l; induction l with
  | nil => intro c _ _; simp [putE]
  | cons y l ih =>
    intro c hc hn
    rw [List.map_cons, List.nodup_cons] at hn
    rw [putE]
    split
    · refine ⟨?_, ?_, Nat.le_refl _, ?_⟩
      · simp only [List.map_cons, List.nodup_cons]; exact hn
      · intro x hx
        rcases List.mem_cons.1 hx with rfl | hx
        · exact hc y (by simp)
        · exact hc x (by simp [hx])
      · intro b hb; exact .inl (by simpa using hb)
    · obtain ⟨h1, h2, h3, h4⟩ := ih (c := c) (fun x hx => hc x (by simp [hx])) hn.2
      refine ⟨?_, ?_, h3, ?_⟩
      · simp only [List.map_cons, List.nodup_cons]
        refine ⟨fun hb => ?_, h1⟩
        rcases h4 _ hb with hb | hb
        · exact hn.1 hb
        · have := hc y (by simp); omega
      · intro x hx
        rcases List.mem_cons.1 hx with rfl | hx
        · have := hc x (by simp); omega
        · exact h2 x hx
      · intro b hb
        simp only [List.map_cons, List.mem_cons] at hb ⊢
        rcases hb with rfl | hb
        · exact .inl (.inl rfl)
        · rcases h4 b hb with hb | hb
          · exact .inl (.inr hb)
          · exact .inr hb
theorem put_out {k v : Int} {l : List E3} {c : Nat} {x : E3} (hx : x ∈ (putE k v l c).1) (hk : x.1 ≠ k) : x ∈ l := by
  rcases put_mem hx with h | h | h
  · exact h.1
  · exact absurd h.1 hk
  · exact h
theorem put_in {k v : Int} : ∀ {l : List E3} {c : Nat} {x : E3}, x ∈ l → x.1 ≠ k → x ∈ (putE k v l c).1 := by
  intro l; induction l with
  | nil => intro c x hx; cases hx
  | cons y l ih =>
    intro c x hx hk
    rw [putE]
    split
    · rename_i he
      have he : k = y.1 := by simpa using he
      rcases List.mem_cons.1 hx with rfl | hx
      · exact absurd he.symm hk
      · simp [hx]
    · rcases List.mem_cons.1 hx with rfl | hx
      · simp
      · simp [ih (c := c) hx hk]
/-- A lock's owner becomes another one: in the map too. -/
theorem winv_put {n : Nat} {own : List Int} {l : List E3} {c : Nat} (h : WInv n own l c) {L : Int} (hL : 0 ≤ L ∧ L < n) (w : Int) : WInv n (own.set L.toNat w) (putE L (w + 1) l c).1 (putE L (w + 1) l c).2 := by
  have hi : L.toNat < own.length := by rw [h.len]; omega
  obtain ⟨b1, b2, b3, b4⟩ := put_borns (k := L) (v := w + 1) h.low h.borns
  refine ⟨by rw [List.length_set]; exact h.len, fun x hx => ?_, fun k hk hno => ?_, ?_, b1, b2⟩
  · by_cases he : x.1 = L
    · rw [he]
      refine ⟨hL.1, hL.2, ?_⟩
      rw [getD_set _ _ _ _ hi, if_pos rfl]
      exact put_val h.keys x hx he
    · obtain ⟨h1, h2, h3⟩ := h.val x (put_out hx he)
      refine ⟨h1, h2, ?_⟩
      rw [getD_set _ _ _ _ hi, if_neg (by omega)]; exact h3
  · rw [getD_set _ _ _ _ hi]
    by_cases he : (k : Int) = L
    · exfalso
      have : L ∈ (putE L (w + 1) l c).1.map (·.1) := by
        rw [put_keys]; split
        · assumption
        · simp
      obtain ⟨x, hx, hxe⟩ := List.mem_map.1 this
      exact hno x hx (by have hxe' : x.1 = L := hxe; omega)
    · rw [if_neg (by omega)]
      exact h.out k hk (fun x hx e => hno x (put_in hx (by omega)) e)
  · rw [put_keys]; split
    · exact h.keys
    · rename_i hn
      rw [List.nodup_append]
      refine ⟨h.keys, by simp, fun a ha b hb => ?_⟩
      simp only [List.mem_singleton] at hb
      subst hb; exact fun e => hn (e ▸ ha)
theorem PutM.own {n : Nat} {own : List Int} {l : List E3} {c : Nat} (h : WInv n own l c) {L v : Int} (hL : 0 ≤ L ∧ L < n) (w : Int) (hv : v = w + 1) {K : List MEnt → Nat → Prop} (g : ∀ l' c', WInv n (own.set L.toNat w) l' c' → K (entsOf l') c') :
    PutM false [.int .i64] (entsOf l) c (.o (.int .i64 L)) (.o (.int .i64 v)) K := by
  subst hv
  exact ⟨_, _, mput_ents L (w + 1) l c, g _ _ (winv_put h hL w)⟩
/-- How many entries are still to come. -/
def left (l : List E3) (seen : List Nat) : Nat := (l.filter (fun x => !seen.contains x.2.2)).length
theorem left_less {l : List E3} {seen : List Nat} {x : E3} (hx : x ∈ l) (hs : x.2.2 ∉ seen) : left l (seen ++ [x.2.2]) < left l seen := by
  have aux : ∀ l : List E3, left l (seen ++ [x.2.2]) ≤ left l seen := by
    intro l; induction l with
    | nil => exact Nat.le_refl _
    | cons y l ih =>
      unfold left at ih ⊢
      simp only [List.filter_cons]
      by_cases h1 : seen.contains y.2.2 = true
      · have h2 : (seen ++ [x.2.2]).contains y.2.2 = true := by simp at h1 ⊢; exact .inl h1
        rw [h1, h2]; simpa using ih
      · have h1 : seen.contains y.2.2 = false := by simpa using h1
        rw [h1]
        cases h2 : (seen ++ [x.2.2]).contains y.2.2 with
        | true => simp only [Bool.not_true, Bool.not_false, if_true, List.length_cons]; exact Nat.le_succ_of_le (by simpa using ih)
        | false => simp only [Bool.not_false, if_true, List.length_cons]; omega
  induction l with
  | nil => cases hx
  | cons y l ih =>
    rcases List.mem_cons.1 hx with rfl | hx
    · have := aux l
      unfold left at this ⊢
      simp only [List.filter_cons]
      have h1 : seen.contains x.2.2 = false := by simpa using hs
      have h2 : (seen ++ [x.2.2]).contains x.2.2 = true := by simp
      rw [h1, h2]; simp only [Bool.not_true, Bool.not_false, if_true, List.length_cons]
      simpa using Nat.lt_succ_of_le this
    · have := ih hx
      unfold left at this ⊢
      simp only [List.filter_cons]
      by_cases h1 : seen.contains y.2.2 = true
      · have h2 : (seen ++ [x.2.2]).contains y.2.2 = true := by simp at h1 ⊢; exact .inl h1
        rw [h1, h2]; simpa using this
      · have h1 : seen.contains y.2.2 = false := by simpa using h1
        rw [h1]
        cases h2 : (seen ++ [x.2.2]).contains y.2.2 with
        | true => simp only [Bool.not_true, Bool.not_false, if_true, List.length_cons]; exact Nat.lt_succ_of_lt (by simpa using this)
        | false => simp only [Bool.not_false, if_true, List.length_cons]; omega
theorem NextM.own {n : Nat} {own : List Int} {l : List E3} {c : Nat} (h : WInv n own l c) {since : Nat} {seen : List Nat} {K : Option MEnt → Prop} (h1 : ∀ x ∈ l, x.2.2 ∉ seen → K (some (entOf x))) (h0 : K none) : NextM (entsOf l) since seen c K := by
  refine ⟨?_, ?_, fun _ => h0⟩
  · cases l with
    | nil => exact .inr (.inl rfl)
    | cons x l => exact .inr (.inr ⟨entOf x, by simp [entsOf], h.low x (by simp)⟩)
  · intro e he hs
    obtain ⟨x, hx, rfl⟩ := List.mem_map.1 he
    exact h1 x hx hs
theorem EntM.own {n : Nat} {own : List Int} {l : List E3} {c : Nat} (h : WInv n own l c) {seen : List Nat} {x : E3} (hx : x ∈ l) {K : MEnt → Prop} (g : K (entOf x)) : EntM (entsOf l) c (seen ++ [x.2.2]) c K := by
  refine ⟨rfl, x.2.2, entOf x, by simp, ?_, g⟩
  have hb := h.borns
  clear h g
  induction l with
  | nil => cases hx
  | cons y l ih =>
    rw [List.map_cons, List.nodup_cons] at hb
    show List.find? _ (entOf y :: entsOf l) = _
    rw [List.find?_cons]
    rcases List.mem_cons.1 hx with rfl | hx
    · have : (entOf x).born == x.2.2 := by simp [entOf]
      rw [this]
    · have : ((entOf y).born == x.2.2) = false := by
        simp only [beq_eq_false_iff_ne]
        exact fun e => hb.1 (List.mem_map.2 ⟨x, hx, e.symm⟩)
      rw [this]; exact ih hx hb.2
end G5
end Go.Proofs.Ytmdfkggflainbaa.VM
