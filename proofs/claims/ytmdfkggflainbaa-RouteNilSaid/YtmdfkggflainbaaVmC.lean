/- The evaluator: what values and memory mean is kept from state to state. -/
import Derived.Test.YtmdfkggflainbaaVmB
import Derived.Deep.MidRow
import Derived.Laws.Append
import Derived.Laws.BytesString
import Derived.Laws.MakeOwn
namespace Go.Proofs.Ytmdfkggflainbaa.VM
open Go.RowKit
set_option linter.unusedVariables false
set_option linter.unusedSimpArgs false

/-! forcing -/
theorem forceNat_eq (n : Nat) (K : Nat → Prop) : ∀ l, forceNat n K l = K n
  | [] => rfl
  | k :: ks => by
    rw [forceNat]
    split
    · rename_i h; rw [Nat.eq_of_beq_eq_true h]
    · exact forceNat_eq n K ks
theorem forceN_eq (n : Nat) (K : Nat → Prop) : forceN n K = K n := forceNat_eq n K _
theorem forceNL_eq : ∀ (l : List Nat) (K : List Nat → Prop), forceNL l K = K l
  | [], K => rfl
  | n :: l, K => by rw [forceNL, forceN_eq, forceNL_eq l]
theorem forceCaps_eq : ∀ (l : List (Nat × Nat)) (K : List (Nat × Nat) → Prop), forceCaps l K = K l
  | [], K => rfl
  | (b, o) :: l, K => by rw [forceCaps, forceN_eq, forceCaps_eq l]
theorem SV.force_eq (s : SV) (K : SV → Prop) : s.force K = K s := by
  cases s <;> simp only [SV.force, forceN_eq, forceCaps_eq]
theorem forceL_eq : ∀ (l : List SV) (K : List SV → Prop), forceL l K = K l
  | [], K => rfl
  | s :: l, K => by rw [forceL, SV.force_eq, forceL_eq l]
theorem PV.force_eq (s : PV) (K : PV → Prop) : s.force K = K s := by
  cases s <;> simp only [PV.force, SV.force_eq, forceL_eq]
theorem forcePL_eq : ∀ (l : List PV) (K : List PV → Prop), forcePL l K = K l
  | [], K => rfl
  | s :: l, K => by rw [forcePL, PV.force_eq, forcePL_eq l]
theorem V.force_eq (s : V) (K : V → Prop) : s.force K = K s := by
  cases s <;> simp only [V.force, PV.force_eq, forcePL_eq]
theorem forceSl_eq : ∀ (l : Slots) (K : Slots → Prop), forceSl l K = K l
  | [], K => rfl
  | (t, v) :: l, K => by rw [forceSl, V.force_eq, forceSl_eq l]

theorem forceE_eq : ∀ (l : List MEnt) (K : List MEnt → Prop), forceE l K = K l
  | [], K => rfl
  | ⟨k, v, b⟩ :: l, K => by rw [forceE, PV.force_eq, forceE_eq l]
theorem Row.force_eq (s : Row) (K : Row → Prop) : s.force K = K s := by
  cases s with
  | dead => rfl
  | row rw sym l => cases sym <;> simp only [Row.force, forceL_eq]
  | iter m since seen st => simp only [Row.force, forceN_eq]
  | mapv es c => simp only [Row.force, forceE_eq]
  | loop n keep sl ps asg body pend => simp only [Row.force, forceSl_eq]
  | _ => rfl
theorem forceM_eq : ∀ (l : List Row) (K : List Row → Prop), forceM l K = K l
  | [], K => rfl
  | s :: l, K => by rw [forceM, Row.force_eq, forceM_eq l]

/-! lists -/
theorem mem_iff (b : Nat) : ∀ l, mem b l = true ↔ b ∈ l
  | [] => by simp [mem]
  | c :: l => by
    rw [mem]
    split
    · rename_i h; simp [Nat.eq_of_beq_eq_true h]
    · rename_i h
      have : b ≠ c := fun e => by rw [e, Nat.beq_refl] at h; cases h
      simp [this, mem_iff b l]
theorem allIn_iff (ids : List Nat) : ∀ l, allIn l ids = true ↔ ∀ b ∈ l, b ∈ ids
  | [] => by simp [allIn]
  | c :: l => by simp [allIn, mem_iff, allIn_iff ids l]
theorem closedB_iff (M : List Row) (ids : List Nat) : ∀ l, closedB M ids l = true ↔ ∀ b ∈ l, ∀ c ∈ (rowAt M b).ids, c ∈ ids
  | [] => by simp [closedB]
  | c :: l => by simp [closedB, allIn_iff, closedB_iff M ids l]
theorem nodupB_iff : ∀ l, nodupB l = true ↔ l.Nodup
  | [] => by simp [nodupB]
  | c :: l => by
    have := mem_iff c l
    simp only [nodupB, Bool.and_eq_true, Bool.not_eq_true', List.nodup_cons, nodupB_iff l]
    constructor
    · rintro ⟨h1, h2⟩; exact ⟨(fun h => by rw [this.2 h] at h1; cases h1), h2⟩
    · rintro ⟨h1, h2⟩
      refine ⟨?_, h2⟩
      cases hm : mem c l
      · rfl
      · exact absurd (this.1 hm) h1
theorem okIds_iff {M : List Row} {roots ids : List Nat} (h : okIds M roots ids = true) :
    (∀ b ∈ roots, b ∈ ids) ∧ (∀ b ∈ ids, ∀ c ∈ (rowAt M b).ids, c ∈ ids) ∧ ids.Nodup := by
  simp only [okIds, Bool.and_eq_true] at h
  exact ⟨(allIn_iff _ _).1 h.1, (closedB_iff _ _ _).1 h.2.1, (nodupB_iff _).1 h.2.2⟩
theorem idx_lt {b : Nat} : ∀ {l : List Nat}, b ∈ l → idx b l < lenI l
  | c :: l, h => by
    rw [idx]
    split
    · simp [lenI]
    · rename_i hb
      have hne : b ≠ c := fun e => by rw [e, Nat.beq_refl] at hb; cases hb
      have := idx_lt (b := b) (l := l) (by simpa [hne] using h)
      simp only [lenI]; omega
theorem back_idx (nid : Nat) {b : Nat} : ∀ {l : List Nat}, b ∈ l → back l nid (idx b l) = b
  | c :: l, h => by
    rw [idx]
    split
    · rename_i hb; simp [back, Nat.eq_of_beq_eq_true hb]
    · rename_i hb
      have hne : b ≠ c := fun e => by rw [e, Nat.beq_refl] at hb; cases hb
      simp only [back]; exact back_idx nid (by simpa [hne] using h)
theorem back_mem (nid : Nat) : ∀ {l : List Nat} {k : Nat}, k < lenI l → back l nid k ∈ l
  | [], k, h => by simp [lenI] at h
  | c :: l, 0, _ => by simp [back]
  | c :: l, k + 1, h => by
    simp only [back, List.mem_cons]
    exact .inr (back_mem nid (by simp only [lenI] at h; omega))
theorem back_ge (nid : Nat) : ∀ {l : List Nat} {k : Nat}, lenI l ≤ k → back l nid k = nid + (k - lenI l)
  | [], k, h => by simp [back, lenI]
  | c :: l, 0, h => by simp [lenI] at h
  | c :: l, k + 1, h => by
    simp only [back, lenI]
    rw [back_ge nid (by simp only [lenI] at h; omega)]
    congr 1
    omega
theorem idx_back (nid : Nat) : ∀ {l : List Nat} {k : Nat}, l.Nodup → k < lenI l → idx (back l nid k) l = k
  | [], k, _, h => by simp [lenI] at h
  | c :: l, 0, _, _ => by simp [back, idx, Nat.beq_refl]
  | c :: l, k + 1, hn, h => by
    have hk : k < lenI l := by simp only [lenI] at h; omega
    have hm := back_mem nid hk
    have hc : back l nid k ≠ c := fun e => (List.nodup_cons.1 hn).1 (e ▸ hm)
    simp only [back, idx]
    split
    · rename_i hb; exact absurd (Nat.eq_of_beq_eq_true hb) hc
    · rw [idx_back nid (List.nodup_cons.1 hn).2 hk]
theorem rowAt_ge : ∀ {M : List Row} {b : Nat}, lenR M ≤ b → rowAt M b = .dead
  | [], _, _ => rfl
  | _ :: M, 0, h => by simp [lenR] at h
  | _ :: M, b + 1, h => by simp only [rowAt]; exact rowAt_ge (by simp only [lenR] at h; omega)
theorem live_lt {M : List Row} {b : Nat} (h : (rowAt M b).live = true) : b < lenR M := by
  rcases Nat.lt_or_ge b (lenR M) with h' | h'
  · exact h'
  · rw [rowAt_ge h'] at h; cases h
theorem rw_live {r : Row} (h : r.rw = true) : r.live = true := by cases r <;> simp_all [Row.rw, Row.live]
theorem lenR_setRow : ∀ (M : List Row) (b : Nat) (r : Row), lenR (setRow M b r) = lenR M
  | [], _, _ => rfl
  | _ :: _, 0, _ => rfl
  | _ :: M, b + 1, r => by simp only [setRow, lenR]; rw [lenR_setRow M b r]
theorem rowAt_setRow_same : ∀ {M : List Row} {b : Nat} (r : Row), b < lenR M → rowAt (setRow M b r) b = r
  | [], _, _, h => by simp [lenR] at h
  | _ :: _, 0, _, _ => rfl
  | _ :: M, b + 1, r, h => by simp only [setRow, rowAt]; exact rowAt_setRow_same r (by simp only [lenR] at h; omega)
theorem rowAt_setRow_other : ∀ (M : List Row) {b c : Nat} (r : Row), b ≠ c → rowAt (setRow M b r) c = rowAt M c
  | [], _, _, _, _ => rfl
  | _ :: _, 0, 0, _, h => absurd rfl h
  | _ :: _, 0, c + 1, _, _ => rfl
  | _ :: M, b + 1, 0, _, _ => rfl
  | _ :: M, b + 1, c + 1, r, h => by simp only [setRow, rowAt]; exact rowAt_setRow_other M r (by omega)
theorem rowAt_setRow (M : List Row) (b c : Nat) (r : Row) : rowAt (setRow M b r) c = if b = c ∧ b < lenR M then r else rowAt M c := by
  by_cases h : b = c
  · subst h
    by_cases h' : b < lenR M
    · rw [if_pos ⟨rfl, h'⟩, rowAt_setRow_same r h']
    · rw [if_neg (by omega), rowAt_ge (by rw [lenR_setRow]; omega), rowAt_ge (by omega)]
  · rw [if_neg (by omega), rowAt_setRow_other M r h]

/-! the meaning is kept when more is named -/
def Ext (ρ ρ' : PMap) : Prop := ∀ b p, ρ b = some p → ρ' b = some p
theorem capsIs_ext {ρ ρ' : PMap} (h : Ext ρ ρ') : ∀ {l vs}, capsIs ρ l vs → capsIs ρ' l vs
  | [], _, x => x
  | _ :: _, _, ⟨p, r, h1, h2, h3⟩ => ⟨p, r, h _ _ h1, h2, capsIs_ext h h3⟩
theorem SV.Is.ext {ρ ρ' : PMap} (h : Ext ρ ρ') {s : SV} {v : Value} (x : s.Is ρ v) : s.Is ρ' v := by
  cases s <;> try exact x
  · obtain ⟨p, h1, h2⟩ := x; exact ⟨p, h _ _ h1, h2⟩
  · obtain ⟨p, a, cap, h1, h2⟩ := x; exact ⟨p, a, cap, h _ _ h1, h2⟩
  · obtain ⟨vs, h1, h2⟩ := x; exact ⟨vs, h1, capsIs_ext h h2⟩
  · obtain ⟨p, h1, h2⟩ := x; exact ⟨p, h _ _ h1, h2⟩
  · obtain ⟨p, h1, h2⟩ := x; exact ⟨p, h _ _ h1, h2⟩
theorem isL_ext {ρ ρ' : PMap} (h : Ext ρ ρ') : ∀ {l vs}, isL ρ l vs → isL ρ' l vs
  | [], _, x => x
  | _ :: _, _, ⟨v, r, h1, h2, h3⟩ => ⟨v, r, h1, h2.ext h, isL_ext h h3⟩
theorem PV.Is.ext {ρ ρ' : PMap} (h : Ext ρ ρ') {s : PV} {v : Value} (x : s.Is ρ v) : s.Is ρ' v := by
  cases s
  · exact SV.Is.ext h x
  · obtain ⟨c, h1, h2⟩ := x; exact ⟨c, h1, isL_ext h h2⟩
theorem isPL_ext {ρ ρ' : PMap} (h : Ext ρ ρ') : ∀ {l vs}, isPL ρ l vs → isPL ρ' l vs
  | [], _, x => x
  | _ :: _, _, ⟨v, r, h1, h2, h3⟩ => ⟨v, r, h1, h2.ext h, isPL_ext h h3⟩
theorem V.Is.ext {ρ ρ' : PMap} (h : Ext ρ ρ') {s : V} {v : Value} (x : s.Is ρ v) : s.Is ρ' v := by
  cases s
  · exact PV.Is.ext h x
  · obtain ⟨c, h1, h2⟩ := x; exact ⟨c, h1, isPL_ext h h2⟩
/-! and when the names are changed -/
theorem capsIs_ren {ρ ρ' : PMap} {g : Nat → Nat} : ∀ {l vs}, (∀ b ∈ capIds l, ∀ p, ρ b = some p → ρ' (g b) = some p) → capsIs ρ l vs → capsIs ρ' (renCaps g l) vs
  | [], _, _, x => x
  | (b, o) :: l, _, h, ⟨p, r, h1, h2, h3⟩ => ⟨p, r, h _ (by simp [capIds]) _ h1, h2, capsIs_ren (fun b hb => h b (by simp [capIds, hb])) h3⟩
theorem SV.Is.ren {ρ ρ' : PMap} {g : Nat → Nat} {s : SV} {v : Value} (h : ∀ b ∈ s.ids, ∀ p, ρ b = some p → ρ' (g b) = some p) (x : s.Is ρ v) : (s.ren g).Is ρ' v := by
  cases s <;> try exact x
  · obtain ⟨p, h1, h2⟩ := x; exact ⟨p, h _ (by simp [SV.ids]) _ h1, h2⟩
  · obtain ⟨p, a, cap, h1, h2⟩ := x; exact ⟨p, a, cap, h _ (by simp [SV.ids]) _ h1, h2⟩
  · obtain ⟨vs, h1, h2⟩ := x; exact ⟨vs, h1, capsIs_ren h h2⟩
  · obtain ⟨p, h1, h2⟩ := x; exact ⟨p, h _ (by simp [SV.ids]) _ h1, h2⟩
  · obtain ⟨p, h1, h2⟩ := x; exact ⟨p, h _ (by simp [SV.ids]) _ h1, h2⟩
theorem isL_ren {ρ ρ' : PMap} {g : Nat → Nat} : ∀ {l vs}, (∀ b ∈ idsL l, ∀ p, ρ b = some p → ρ' (g b) = some p) → isL ρ l vs → isL ρ' (renL g l) vs
  | [], _, _, x => x
  | s :: l, _, h, ⟨v, r, h1, h2, h3⟩ => ⟨v, r, h1, h2.ren (fun b hb => h b (by simp [idsL, hb])), isL_ren (fun b hb => h b (by simp [idsL, hb])) h3⟩
theorem PV.Is.ren {ρ ρ' : PMap} {g : Nat → Nat} {s : PV} {v : Value} (h : ∀ b ∈ s.ids, ∀ p, ρ b = some p → ρ' (g b) = some p) (x : s.Is ρ v) : (s.ren g).Is ρ' v := by
  cases s
  · exact SV.Is.ren h x
  · obtain ⟨c, h1, h2⟩ := x; exact ⟨c, h1, isL_ren h h2⟩
theorem isPL_ren {ρ ρ' : PMap} {g : Nat → Nat} : ∀ {l vs}, (∀ b ∈ idsPL l, ∀ p, ρ b = some p → ρ' (g b) = some p) → isPL ρ l vs → isPL ρ' (renPL g l) vs
  | [], _, _, x => x
  | s :: l, _, h, ⟨v, r, h1, h2, h3⟩ => ⟨v, r, h1, h2.ren (fun b hb => h b (by simp [idsPL, hb])), isPL_ren (fun b hb => h b (by simp [idsPL, hb])) h3⟩
theorem V.Is.ren {ρ ρ' : PMap} {g : Nat → Nat} {s : V} {v : Value} (h : ∀ b ∈ s.ids, ∀ p, ρ b = some p → ρ' (g b) = some p) (x : s.Is ρ v) : (s.ren g).Is ρ' v := by
  cases s
  · exact PV.Is.ren h x
  · obtain ⟨c, h1, h2⟩ := x; exact ⟨c, h1, isPL_ren h h2⟩
/-! rows, element by element -/
theorem nth_isL {ρ : PMap} : ∀ {l vs i s}, isL ρ l vs → nth l i = some s → ∃ v, vs[i]? = some v ∧ s.Is ρ v
  | [], _, _, _, _, h => by simp [nth] at h
  | x :: l, _, 0, s, ⟨v, r, h1, h2, h3⟩, h => by
    simp only [nth, Option.some.injEq] at h
    subst h; subst h1
    exact ⟨v, rfl, h2⟩
  | x :: l, _, i + 1, s, ⟨v, r, h1, h2, h3⟩, h => by
    simp only [nth] at h
    subst h1
    obtain ⟨u, hu, hs⟩ := nth_isL h3 h
    exact ⟨u, by simpa using hu, hs⟩
theorem isL_len {ρ : PMap} : ∀ {l vs}, isL ρ l vs → vs.length = lenS l
  | [], _, h => by simp only [isL] at h; subst h; rfl
  | _ :: l, _, ⟨v, r, h1, _, h3⟩ => by subst h1; simp [lenS, isL_len h3]
theorem nth_lt : ∀ {l : List SV} {i : Nat} {s : SV}, nth l i = some s → i < lenS l
  | [], _, _, h => by simp [nth] at h
  | _ :: l, 0, _, _ => by simp [lenS]
  | _ :: l, i + 1, _, h => by simp only [nth] at h; have := nth_lt h; simp only [lenS]; omega
theorem nth_ge : ∀ {l : List SV} {i : Nat}, lenS l ≤ i → nth l i = none
  | [], _, _ => rfl
  | _ :: l, 0, h => by simp [lenS] at h
  | _ :: l, i + 1, h => by simp only [nth]; exact nth_ge (by simp only [lenS] at h; omega)
theorem nth_some : ∀ {l : List SV} {i : Nat}, i < lenS l → ∃ s, nth l i = some s
  | [], _, h => by simp [lenS] at h
  | x :: _, 0, _ => ⟨x, rfl⟩
  | _ :: l, i + 1, h => by simp only [nth]; exact nth_some (by simp only [lenS] at h; omega)
theorem nth_drop : ∀ (l : List SV) (o i : Nat), nth (dropN l o) i = nth l (o + i)
  | l, 0, i => by simp [dropN]
  | [], o + 1, i => by simp [dropN, nth]
  | x :: l, o + 1, i => by rw [dropN, nth_drop l o i, show o + 1 + i = (o + i) + 1 by omega, nth]
theorem lenS_drop : ∀ (l : List SV) (o : Nat), lenS (dropN l o) = lenS l - o
  | l, 0 => by simp [dropN]
  | [], o + 1 => by simp [dropN, lenS]
  | _ :: l, o + 1 => by rw [dropN, lenS_drop l o, lenS]; omega
theorem takeN_spec : ∀ {l : List SV} {n : Nat} {c : List SV}, takeN l n = some c → lenS c = n ∧ n ≤ lenS l ∧ ∀ i, i < n → nth c i = nth l i
  | l, 0, c, h => by
    simp only [takeN, Option.some.injEq] at h
    subst h
    exact ⟨rfl, Nat.zero_le _, fun i hi => by omega⟩
  | [], n + 1, c, h => by simp [takeN] at h
  | x :: l, n + 1, c, h => by
    simp only [takeN] at h
    split at h
    · rename_i c' hc
      obtain ⟨h1, h2, h3⟩ := takeN_spec hc
      simp only [Option.some.injEq] at h
      subst h
      refine ⟨by simp [lenS, h1], by simp only [lenS]; omega, fun i hi => ?_⟩
      cases i with
      | zero => rfl
      | succ i => simp only [nth]; exact h3 i (by omega)
    · cases h
theorem getN_spec {l : List SV} {o n : Nat} {c : List SV} (h : getN l o n = some c) : lenS c = n ∧ (0 < n → o + n ≤ lenS l) ∧ ∀ i, i < n → nth c i = nth l (o + i) := by
  obtain ⟨h1, h2, h3⟩ := takeN_spec h
  rw [lenS_drop] at h2
  exact ⟨h1, fun _ => by omega, fun i hi => by rw [h3 i hi, nth_drop]⟩
theorem nth_over : ∀ (l c : List SV) (i : Nat), lenS c ≤ lenS l → nth (over l c) i = if i < lenS c then nth c i else nth l i
  | l, [], i, _ => by simp [over, lenS]
  | [], _ :: _, i, h => by simp [lenS] at h
  | x :: l, y :: c, 0, h => by simp [over, lenS, nth]
  | x :: l, y :: c, i + 1, h => by
    simp only [over, nth, lenS]
    rw [nth_over l c i (by simp only [lenS] at h; omega)]
    simp
theorem nth_setN : ∀ (l : List SV) (o : Nat) (c : List SV) (i : Nat), o + lenS c ≤ lenS l → nth (setN l o c) i = if o ≤ i ∧ i < o + lenS c then nth c (i - o) else nth l i
  | l, 0, c, i, h => by rw [setN, nth_over l c i (by omega)]; simp
  | [], o + 1, c, i, h => by simp [lenS] at h
  | x :: l, o + 1, c, 0, h => by simp [setN, nth]
  | x :: l, o + 1, c, i + 1, h => by
    simp only [setN, nth]
    rw [nth_setN l o c i (by simp only [lenS] at h; omega)]
    have e1 : i + 1 - (o + 1) = i - o := by omega
    rw [e1]
    by_cases hc : o ≤ i ∧ i < o + lenS c
    · rw [if_pos hc, if_pos (by omega)]
    · rw [if_neg hc, if_neg (by omega)]
theorem lenS_over : ∀ (l c : List SV), lenS (over l c) = lenS l
  | l, [] => by simp [over]
  | [], _ :: _ => rfl
  | x :: l, y :: c => by simp [over, lenS, lenS_over l c]
theorem lenS_setN : ∀ (l : List SV) (o : Nat) (c : List SV), lenS (setN l o c) = lenS l
  | l, 0, c => by rw [setN, lenS_over]
  | [], o + 1, c => rfl
  | x :: l, o + 1, c => by simp [setN, lenS, lenS_setN l o c]
theorem lenS_append : ∀ (l m : List SV), lenS (l ++ m) = lenS l + lenS m
  | [], m => by simp [lenS]
  | x :: l, m => by simp only [List.cons_append, lenS, lenS_append l m]; omega
theorem nth_append : ∀ (l m : List SV) (i : Nat), nth (l ++ m) i = if i < lenS l then nth l i else nth m (i - lenS l)
  | [], m, i => by simp [lenS]
  | x :: l, m, 0 => by simp [nth, lenS]
  | x :: l, m, i + 1 => by
    simp only [List.cons_append, nth]
    rw [nth_append l m i]
    by_cases h : i < lenS l
    · rw [if_pos h, if_pos (show i + 1 < lenS (x :: l) by simp only [lenS]; omega)]
    · rw [if_neg h, if_neg (show ¬ i + 1 < lenS (x :: l) by simp only [lenS]; omega)]; congr 1; simp only [lenS]; omega
theorem allFlat_iff : ∀ {l : List SV}, allFlat l = true → ∀ i s, nth l i = some s → s.flat = true
  | [], _, i, s, h => by simp [nth] at h
  | x :: l, hl, i, s, h => by
    simp only [allFlat] at hl
    split at hl
    · rename_i hx
      cases i with
      | zero => simp only [nth, Option.some.injEq] at h; exact h ▸ hx
      | succ i => exact allFlat_iff hl i s h
    · cases hl
/-- The values of cells that stand one behind the other. -/
theorem isL_of_nth {ρ : PMap} : ∀ (l : List SV) (f : Nat → Value), (∀ i s, nth l i = some s → s.Is ρ (f i)) → isL ρ l ((List.range (lenS l)).map f)
  | [], f, _ => by simp [isL, lenS]
  | x :: l, f, h => by
    rw [lenS, List.range_succ_eq_map]
    refine ⟨f 0, ((List.range (lenS l)).map Nat.succ).map f, rfl, h 0 x rfl, ?_⟩
    rw [List.map_map]
    exact isL_of_nth l (f ∘ Nat.succ) (fun i s hs => h (i + 1) s hs)
theorem flat_ids {s : SV} (h : s.flat = true) : s.ids = [] := by cases s <;> simp_all [SV.flat, SV.ids]
theorem mem_idsL : ∀ {l : List SV} {b : Nat}, b ∈ idsL l ↔ ∃ i s, nth l i = some s ∧ b ∈ s.ids
  | [], b => by simp [idsL, nth]
  | x :: l, b => by
    simp only [idsL, List.mem_append, mem_idsL (l := l)]
    constructor
    · rintro (h | ⟨i, s, h1, h2⟩)
      · exact ⟨0, x, rfl, h⟩
      · exact ⟨i + 1, s, h1, h2⟩
    · rintro ⟨i, s, h1, h2⟩
      cases i with
      | zero => simp only [nth, Option.some.injEq] at h1; exact .inl (h1 ▸ h2)
      | succ i => exact .inr ⟨i, s, h1, h2⟩
theorem nth_renL (g : Nat → Nat) : ∀ (l : List SV) (i : Nat), nth (renL g l) i = (nth l i).map (SV.ren g)
  | [], i => rfl
  | x :: l, 0 => rfl
  | x :: l, i + 1 => by simp only [renL, nth]; exact nth_renL g l i
theorem lenS_renL (g : Nat → Nat) : ∀ (l : List SV), lenS (renL g l) = lenS l
  | [] => rfl
  | x :: l => by simp [renL, lenS, lenS_renL g l]
theorem sv_iff {ρ : PMap} {s : SV} {v : Value} (h : s.flat = true) : s.Is ρ v ↔ v = svVal s := by
  cases s <;> first | exact Iff.rfl | cases h
theorem sl_iff {ρ : PMap} : ∀ {l : List SV} {vs : List Value}, allFlat l = true → (isL ρ l vs ↔ vs = slVal l)
  | [], vs, h => Iff.rfl
  | s :: l, vs, h => by
    simp only [allFlat] at h
    split at h
    · rename_i hs
      constructor
      · rintro ⟨v, r, rfl, h1, h2⟩
        rw [(sv_iff hs).1 h1, (sl_iff h).1 h2]; rfl
      · rintro rfl
        exact ⟨_, _, rfl, (sv_iff hs).2 rfl, (sl_iff h).2 rfl⟩
    · cases h
theorem pv_iff {ρ : PMap} {x : PV} {v : Value} (h : flatP x = true) : x.Is ρ v ↔ v = pvVal x := by
  cases x with
  | o s => exact sv_iff h
  | a l =>
    constructor
    · rintro ⟨c, rfl, hc⟩
      have := (sl_iff h).1 hc
      simp only [pvVal]; rw [← this]
    · rintro rfl
      exact ⟨_, rfl, (sl_iff h).2 rfl⟩
end Go.Proofs.Ytmdfkggflainbaa.VM
