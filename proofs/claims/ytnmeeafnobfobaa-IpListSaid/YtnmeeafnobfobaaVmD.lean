/- The evaluator: memory from state to state. -/
import Derived.Test.YtnmeeafnobfobaaVmC
namespace Go.Proofs.Ytnmeeafnobfobaa.VM
open Go.RowKit
set_option linter.unusedVariables false
set_option linter.unusedSimpArgs false
variable {ρ ρ' ρ'' : PMap} {M M' M'' : List Row} {w w' w'' : World}

theorem Ev.refl (ρ : PMap) (M : List Row) (w : World) : Ev ρ M w ρ M w :=
  ⟨fun _ _ h => h, rfl, rfl, rfl, Nat.le_refl _, fun _ _ _ => rfl, fun _ h => .inl h, fun _ _ hl h => .inl ⟨hl, h⟩⟩
theorem Ev.trans (h : Ev ρ M w ρ' M' w') (h' : Ev ρ' M' w' ρ'' M'' w'') : Ev ρ M w ρ'' M'' w'' where
  ext := fun b p x => h'.ext b p (h.ext b p x)
  os := h'.os.trans h.os
  tape := h'.tape.trans h.tape
  output := h'.output.trans h.output
  size := Nat.le_trans h.size h'.size
  frame := fun k hk hno => by
    rw [h'.frame k (Nat.lt_of_lt_of_le hk h.size) (fun ho => ?_), h.frame k hk hno]
    rcases h.owned k ho with h1 | h1
    · exact hno h1
    · omega
  owned := fun k hk => by
    rcases h'.owned k hk with h1 | h1
    · exact h.owned k h1
    · exact .inr (Nat.le_trans h.size h1)
  fresh := fun b p hl hb => by
    rcases h'.fresh b p hl hb with h1 | h1 | h1
    · exact h.fresh b p h1.1 h1.2
    · exact .inr (.inl (Nat.le_trans h.size h1))
    · rcases h.owned _ h1 with h2 | h2
      · exact .inr (.inr h2)
      · exact .inr (.inl h2)
theorem cell_of_heap {w w' : World} {a : Addr} (h : w'.heap[a.block]? = w.heap[a.block]?) : w'.cell? a = w.cell? a := by
  simp only [World.cell?, h]
/-- A row in a block that has not changed. -/
theorem RowOk.keep {p : Place} {r : Row} (h : RowOk ρ w p r) (hx : Ext ρ ρ') (hs : w.heap.size ≤ w'.heap.size) (hb : w'.heap[p.blk]? = w.heap[p.blk]?) : RowOk ρ' w' p r := by
  cases r with
  | dead => trivial
  | row rw sym l =>
    obtain ⟨h1, h2, h3, h4⟩ := h
    refine ⟨by omega, fun i s hi => ?_, h3, fun hr => ?_⟩
    · obtain ⟨v, hv, hc⟩ := h2 i s hi
      exact ⟨v, hv.ext hx, (cell_of_heap hb).trans hc⟩
    · obtain ⟨h5, c, T, lo, hi, h6, h7⟩ := h4 hr
      exact ⟨h5, c, T, lo, hi, hb.trans h6, h7⟩
/-- The world alone goes on, without a change of what is there. -/
theorem Rep.same (h : Rep ρ M w) (hs : w.heap.size ≤ w'.heap.size) (hb : ∀ k, k < w.heap.size → w'.heap[k]? = w.heap[k]?) : Rep ρ M w' :=
  ⟨h.dom, fun b hl => by
    obtain ⟨p, hp, hr⟩ := h.rows b hl
    refine ⟨p, hp, hr.keep (fun _ _ x => x) hs (hb _ ?_)⟩
    cases hq : rowAt M b with
    | dead => rw [hq] at hl; cases hl
    | row rw sym l => rw [hq] at hr; exact hr.1, h.apart⟩
theorem Rep.drew (h : Rep ρ M w) : Rep ρ M w.drew := h.same (Nat.le_refl _) (fun _ _ => rfl)
theorem Ev.drew (h : Ev ρ M w ρ' M' w') : Ev ρ M w ρ' M' w'.drew := ⟨h.ext, h.os, h.tape, h.output, h.size, h.frame, h.owned, h.fresh⟩
theorem Rep.draws (h : Rep ρ M w) (n : Nat) : Rep ρ M { w with drawn := n } := h.same (Nat.le_refl _) (fun _ _ => rfl)
theorem Ev.draws (h : Ev ρ M w ρ' M' w') (n : Nat) : Ev ρ M w ρ' M' { w' with drawn := n } := ⟨h.ext, h.os, h.tape, h.output, h.size, h.frame, h.owned, h.fresh⟩
/-- The names, and one name more. -/
def upd (ρ : PMap) (n : Nat) (p : Place) : PMap := fun b => if b = n then some p else ρ b
theorem upd_ext {n : Nat} {p : Place} (h : ρ n = none) : Ext ρ (upd ρ n p) := fun b q hb => by
  unfold upd
  by_cases e : b = n
  · subst e; rw [h] at hb; cases hb
  · rw [if_neg e]; exact hb
theorem upd_same (ρ : PMap) (n : Nat) (p : Place) : upd ρ n p n = some p := if_pos rfl
theorem upd_other {n b : Nat} (p : Place) (h : b ≠ n) : upd ρ n p b = ρ b := if_neg h
/-- A row that is dead, and was not: nothing is lost. -/
theorem Rep.kill (h : Rep ρ M w) (b : Nat) : Rep ρ (setRow M b .dead) w where
  dom := fun c p hc => by rw [lenR_setRow]; exact h.dom c p hc
  rows := fun c hl => by
    rw [rowAt_setRow] at hl ⊢
    split at hl
    · cases hl
    · rename_i hn; rw [if_neg hn]; exact h.rows c hl
  apart := fun c d p q hne hc hd => by
    rw [rowAt_setRow] at hc hd
    split at hc
    · cases hc
    · split at hd
      · cases hd
      · exact h.apart c d p q hne hc hd
theorem Ev.kill (b : Nat) : Ev ρ M w ρ (setRow M b .dead) w where
  ext := fun _ _ h => h
  os := rfl
  tape := rfl
  output := rfl
  size := Nat.le_refl _
  frame := fun _ _ _ => rfl
  owned := fun k ⟨c, p, h1, h2, h3⟩ => by
    rw [rowAt_setRow] at h1
    split at h1
    · cases h1
    · exact .inl ⟨c, p, h1, h2, h3⟩
  fresh := fun c p hl h => by
    rw [rowAt_setRow] at hl
    split at hl
    · cases hl
    · exact .inl ⟨hl, h⟩
/-- A new block, and its row. -/
theorem new_row {nid : Nat} {c : Array Value} {T : TypeId} {lo hi : Nat} {sym : Bool} {l : List SV} (h : Rep ρ M w) (hn : ρ nid = none) (hM : nid < lenR M)
    (hw : w'.heap = w.heap.push (.cells c T (lo, hi))) (h1 : w'.os = w.os) (h2 : w'.tape = w.tape) (h3 : w'.output = w.output) (hz : lo = hi ∨ c.size ≤ lo)
    (hl : lenS l ≤ c.size) (hc : ∀ i s, nth l i = some s → ∃ v, s.Is ρ v ∧ c[i]? = some v) (hf : sym = true → ∀ i s, nth l i = some s → s.flat = true) (hd : rowAt M nid = .dead) :
    Rep (upd ρ nid ⟨w.heap.size, 0, c.size⟩) (setRow M nid (.row true sym l)) w' ∧ Ev ρ M w (upd ρ nid ⟨w.heap.size, 0, c.size⟩) (setRow M nid (.row true sym l)) w' := by
  have hx := upd_ext (p := ⟨w.heap.size, 0, c.size⟩) hn
  have hsz : w'.heap.size = w.heap.size + 1 := by rw [hw]; simp
  have hold : ∀ k, k < w.heap.size → w'.heap[k]? = w.heap[k]? := fun k hk => by rw [hw, Array.getElem?_push, if_neg (by omega)]
  have hnew : w'.heap[w.heap.size]? = some (.cells c T (lo, hi)) := by rw [hw]; simp
  have blk : ∀ b p, (rowAt M b).live = true → ρ b = some p → p.blk < w.heap.size := fun b p hlv hp => by
    obtain ⟨q, hq, hr⟩ := h.rows b hlv
    rw [hp] at hq; cases hq
    cases hrow : rowAt M b with
    | dead => rw [hrow] at hlv; cases hlv
    | row rw sym l => rw [hrow] at hr; exact hr.1
  constructor
  · refine ⟨fun b p hb => ?_, fun b hlv => ?_, fun b d p q hne hb hd hp hq => ?_⟩
    · rw [lenR_setRow]
      by_cases e : b = nid
      · subst e; exact hM
      · rw [upd_other _ e] at hb; exact h.dom b p hb
    · by_cases e : b = nid
      · subst e
        refine ⟨_, upd_same _ _ _, ?_⟩
        rw [rowAt_setRow_same _ hM]
        refine ⟨by show w.heap.size < _; omega, fun i s hi => ?_, hf, fun _ => ⟨by simpa using hl, c, T, lo, hi, hnew, rfl, hz⟩⟩
        obtain ⟨v, hv, hcv⟩ := hc i s hi
        refine ⟨v, hv.ext hx, ?_⟩
        show World.cell? w' ⟨w.heap.size, 0 + i, none⟩ = some v
        simp only [World.cell?, hnew, Nat.zero_add]
        exact hcv
      · rw [rowAt_setRow_other _ _ (Ne.symm e)] at hlv ⊢
        obtain ⟨p, hp, hr⟩ := h.rows b hlv
        exact ⟨p, by rw [upd_other _ e]; exact hp, hr.keep hx (by omega) (hold _ (blk b p hlv hp))⟩
    · by_cases e : b = nid
      · subst e
        rw [upd_same] at hp; cases hp
        rw [rowAt_setRow_other _ _ hne] at hd
        rw [upd_other _ (Ne.symm hne)] at hq
        have := blk d q hd hq
        show w.heap.size ≠ q.blk
        omega
      · rw [rowAt_setRow_other _ _ (Ne.symm e)] at hb
        rw [upd_other _ e] at hp
        have hpb := blk b p (rw_live hb) hp
        by_cases e' : d = nid
        · subst e'
          rw [upd_same] at hq; cases hq
          show p.blk ≠ w.heap.size
          omega
        · rw [rowAt_setRow_other _ _ (Ne.symm e')] at hd
          rw [upd_other _ e'] at hq
          exact h.apart b d p q hne hb hd hp hq
  · refine ⟨hx, h1, h2, h3, by omega, fun k hk _ => hold k hk, fun k ⟨b, p, hb, hp, hk⟩ => ?_, fun b p hlb hb => ?_⟩
    · by_cases e : b = nid
      · subst e; rw [upd_same] at hp; cases hp; subst hk; exact .inr (Nat.le_refl _)
      · rw [rowAt_setRow_other _ _ (Ne.symm e)] at hb
        rw [upd_other _ e] at hp
        exact .inl ⟨b, p, hb, hp, hk⟩
    · by_cases e : b = nid
      · subst e; rw [upd_same] at hb; cases hb; exact .inr (.inl (Nat.le_refl _))
      · rw [upd_other _ e] at hb; rw [rowAt_setRow_other _ _ (Ne.symm e)] at hlb; exact .inl ⟨hlb, hb⟩
/-! writing -/
theorem oneCell_of_Is {s : SV} {v : Value} (h : s.Is ρ v) : v.oneCell' = true := by
  cases s
  · cases h; rfl
  · cases h; rfl
  · cases h; rfl
  · obtain ⟨p, _, rfl⟩ := h; rfl
  · cases h; rfl
  · obtain ⟨p, a, cap, _, rfl, _⟩ := h; rfl
  · cases h; rfl
  · obtain ⟨vs, rfl, _⟩ := h; rfl
  · cases h; rfl
theorem oneCells_of_isL : ∀ {l : List SV} {vs : List Value}, isL ρ l vs → ∀ v ∈ vs, v.oneCell' = true
  | [], _, h, v, hv => by simp only [isL] at h; subst h; simp at hv
  | _ :: _, _, ⟨u, r, h1, h2, h3⟩, v, hv => by
    subst h1
    rcases List.mem_cons.1 hv with rfl | hv
    · exact oneCell_of_Is h2
    · exact oneCells_of_isL h3 v hv
theorem heap_setCells_other (b : Nat) : ∀ (vs : List Value) (o : Nat) (w : World) (k : Nat), k ≠ b → (w.setCells b o vs).heap[k]? = w.heap[k]?
  | [], _, _, _, _ => rfl
  | v :: vs, o, w, k, h => by
    show ((w.setCell ⟨b, o, none⟩ v).setCells b (o + 1) vs).heap[k]? = _
    rw [heap_setCells_other b vs (o + 1) _ k h]
    exact Below.heap_setCell _ _ _ _ h
theorem heap_setCells_same (b : Nat) : ∀ (vs : List Value) (o : Nat) (w : World) (c : Array Value) (T : TypeId) (z : Nat × Nat), w.heap[b]? = some (.cells c T z) →
    ∃ c', (w.setCells b o vs).heap[b]? = some (.cells c' T z) ∧ c'.size = c.size
  | [], _, _, c, T, z, h => ⟨c, h, rfl⟩
  | v :: vs, o, w, c, T, z, h => by
    have h1 : (w.setCell ⟨b, o, none⟩ v).heap[b]? = some (.cells (c.setIfInBounds o v) T z) := by
      simp [World.setCell, Array.getElem?_modify, h]
    obtain ⟨c', h2, h3⟩ := heap_setCells_same b vs (o + 1) _ _ T z h1
    exact ⟨c', h2, by rw [h3]; simp⟩
theorem size_setCells (b : Nat) : ∀ (vs : List Value) (o : Nat) (w : World), (w.setCells b o vs).heap.size = w.heap.size
  | [], _, _ => rfl
  | v :: vs, o, w => by
    show ((w.setCell ⟨b, o, none⟩ v).setCells b (o + 1) vs).heap.size = _
    rw [size_setCells b vs]; simp [World.setCell]
theorem streams_setCells (b : Nat) : ∀ (vs : List Value) (o : Nat) (w : World), (w.setCells b o vs).os = w.os ∧ (w.setCells b o vs).tape = w.tape ∧ (w.setCells b o vs).output = w.output
  | [], _, _ => ⟨rfl, rfl, rfl⟩
  | v :: vs, o, w => streams_setCells b vs (o + 1) (w.setCell ⟨b, o, none⟩ v)
/-- A block that may be written: its cells are there, and not frozen. -/
theorem there_of {p : Place} {c : Array Value} {T : TypeId} {lo hi o n : Nat} (h : w.heap[p.blk]? = some (.cells c T (lo, hi))) (hc : c.size = p.fin) (hz : lo = hi ∨ p.fin ≤ lo) (ho : o + n ≤ p.fin) : w.there p.blk o n := fun j hj => by
  constructor
  · simp only [World.cell?, h]
    simp only [Option.isSome_none, Bool.false_eq_true, if_false]
    rw [Array.getElem?_eq_getElem (by omega)]; rfl
  · simp only [World.frozen?, h, Bool.and_eq_false_iff, decide_eq_false_iff_not]
    rcases hz with h | h
    · omega
    · omega
theorem cell_setCells {b o : Nat} {vs : List Value} (ht : w.there b o vs.length) (j : Nat) : (w.setCells b o vs).cell? ⟨b, j, none⟩ = if o ≤ j ∧ j < o + vs.length then vs[j - o]? else w.cell? ⟨b, j, none⟩ := by
  by_cases h : o ≤ j ∧ j < o + vs.length
  · rw [if_pos h]
    have e : j = o + (j - o) := by omega
    have hv := World.rangeAt_setCells_same w b o vs ht (j - o) (vs[j - o]'(by omega)) (by simp)
    rw [← e] at hv
    rw [hv, List.getElem?_eq_getElem]
  · rw [if_neg h]
    cases hc : w.cell? ⟨b, j, none⟩ with
    | some v =>
      have := World.rangeAt_setCells_apart (w := w) (b' := b) (o' := j) (cs := [v]) (fun i u hu => by
        have : i = 0 := by
          have := (List.getElem?_eq_some_iff.1 hu).1
          simpa using this
        subst this
        simp only [List.getElem?_cons_zero, Option.some.injEq] at hu
        subst hu; exact hc) b o vs (by simp only [List.length_cons, List.length_nil]; omega)
      exact this 0 v rfl
    | none =>
      have hc0 := hc
      simp only [World.cell?] at hc ⊢
      cases hb : w.heap[b]? with
      | none =>
        have hbs : w.heap.size ≤ b := by
          rcases Nat.lt_or_ge b w.heap.size with h' | h'
          · simp [h'] at hb
          · exact h'
        have : (w.setCells b o vs).heap[b]? = none := by simp [size_setCells, hbs]
        rw [this]
      | some ob =>
        cases ob with
        | cells c T z =>
          rw [hb] at hc
          obtain ⟨c', h1, h2⟩ := heap_setCells_same b vs o w c T z hb
          rw [h1]
          simp only [Option.isSome_none, Bool.false_eq_true, if_false] at hc ⊢
          have : c.size ≤ j := by
            rcases Nat.lt_or_ge j c.size with h' | h'
            · simp [h'] at hc
            · exact h'
          simp [h2, this]
        | _ =>
          cases vs with
          | nil => exact hc0
          | cons v vs =>
            have := (ht 0 (by simp)).1
            simp [World.cell?, hb] at this
/-- Cells of a row that may be written are written; the row may grow into what lies behind it. -/
theorem write_row {b : Nat} {sym sym' : Bool} {l l2 : List SV} {p : Place} {o : Nat} {cs : List SV} {vs : List Value} (h : Rep ρ M w) (hrow : rowAt M b = .row true sym l) (hp : ρ b = some p) (hvs : isL ρ cs vs)
    (hfin : p.base + o + lenS cs ≤ p.fin) (hl2 : p.base + lenS l2 ≤ p.fin)
    (hin : ∀ i s, nth l2 i = some s → o ≤ i → i < o + lenS cs → nth cs (i - o) = some s)
    (hout : ∀ i s, nth l2 i = some s → (i < o ∨ o + lenS cs ≤ i) → nth l i = some s)
    (hf : sym' = true → ∀ i s, nth l2 i = some s → s.flat = true) :
    Rep ρ (setRow M b (.row true sym' l2)) (w.setCells p.blk (p.base + o) vs) ∧ Ev ρ M w ρ (setRow M b (.row true sym' l2)) (w.setCells p.blk (p.base + o) vs) := by
  have hlen := isL_len hvs
  have hlv : (rowAt M b).live = true := by rw [hrow]; rfl
  obtain ⟨q, hq, hr⟩ := h.rows b hlv
  rw [hp] at hq; cases hq
  rw [hrow] at hr
  obtain ⟨hb, hcells, hflat, hrw⟩ := hr
  obtain ⟨hbl, c, T, lo, hi, hheap, hcs, hz⟩ := hrw rfl
  have ht : w.there p.blk (p.base + o) vs.length := there_of hheap hcs hz (by omega)
  have hM : b < lenR M := live_lt hlv
  have hsz := size_setCells p.blk vs (p.base + o) w
  have hstr := streams_setCells p.blk vs (p.base + o) w
  obtain ⟨c', hh', hc'⟩ := heap_setCells_same p.blk vs (p.base + o) w c T (lo, hi) hheap
  constructor
  · refine ⟨fun x q hx => by rw [lenR_setRow]; exact h.dom x q hx, fun x hx => ?_, fun x y px py hne hx hy hpx hpy => ?_⟩
    · by_cases e : x = b
      · subst e
        refine ⟨p, hp, ?_⟩
        rw [rowAt_setRow_same _ hM]
        refine ⟨by omega, fun i s hi' => ?_, hf, fun _ => ⟨hl2, c', T, lo, hi, hh', by omega, hz⟩⟩
        rw [cell_setCells ht]
        by_cases hin' : o ≤ i ∧ i < o + lenS cs
        · rw [if_pos (by omega)]
          obtain ⟨v, hv, hvI⟩ := nth_isL hvs (hin i s hi' hin'.1 hin'.2)
          exact ⟨v, hvI, by rw [show p.base + i - (p.base + o) = i - o by omega]; exact hv⟩
        · rw [if_neg (by omega)]
          exact hcells i s (hout i s hi' (by omega))
      · rw [rowAt_setRow_other _ _ (Ne.symm e)] at hx ⊢
        obtain ⟨px, hpx, hrx⟩ := h.rows x hx
        exact ⟨px, hpx, hrx.keep (fun _ _ a => a) (by omega) (heap_setCells_other _ _ _ _ _ (fun e' => h.apart b x p px (Ne.symm e) (by rw [hrow]; rfl) hx hp hpx e'.symm))⟩
    · have hx' : (rowAt M x).rw = true := by
        by_cases e : x = b
        · subst e; rw [hrow]; rfl
        · rwa [rowAt_setRow_other _ _ (Ne.symm e)] at hx
      have hy' : (rowAt M y).live = true := by
        by_cases e : y = b
        · subst e; exact hlv
        · rwa [rowAt_setRow_other _ _ (Ne.symm e)] at hy
      exact h.apart x y px py hne hx' hy' hpx hpy
  · refine ⟨fun _ _ a => a, hstr.1, hstr.2.1, hstr.2.2, by omega, fun k hk hno => heap_setCells_other _ _ _ _ _ (fun e => hno ⟨b, p, by rw [hrow]; rfl, hp, e.symm⟩), fun k ⟨x, px, hx, hpx, hk⟩ => .inl ?_, fun x px hlx hpx => .inl ⟨?_, hpx⟩⟩
    · by_cases e : x = b
      · subst e; exact ⟨x, px, by rw [hrow]; rfl, hpx, hk⟩
      · rw [rowAt_setRow_other _ _ (Ne.symm e)] at hx; exact ⟨x, px, hx, hpx, hk⟩
    · by_cases e : x = b
      · subst e; exact hlv
      · rw [rowAt_setRow_other _ _ (Ne.symm e)] at hlx; exact hlx
/-- A row gets another name, from one of its cells on. -/
theorem move_row {b nid : Nat} {sym : Bool} {l : List SV} {p : Place} (o : Nat) (h : Rep ρ M w) (hrow : rowAt M b = .row true sym l) (hp : ρ b = some p) (hn : ρ nid = none) (hM : nid < lenR M) (ho : o ≤ lenS l) :
    Rep (upd ρ nid ⟨p.blk, p.base + o, p.fin⟩) (setRow (setRow M b .dead) nid (.row true sym (dropN l o))) w ∧
    Ev ρ M w (upd ρ nid ⟨p.blk, p.base + o, p.fin⟩) (setRow (setRow M b .dead) nid (.row true sym (dropN l o))) w := by
  have hx := upd_ext (p := ⟨p.blk, p.base + o, p.fin⟩) hn
  have hlv : (rowAt M b).live = true := by rw [hrow]; rfl
  obtain ⟨q, hq, hr⟩ := h.rows b hlv
  rw [hp] at hq; cases hq
  rw [hrow] at hr
  obtain ⟨hb, hcells, hflat, hrw⟩ := hr
  obtain ⟨hbl, c, T, lo, hi, hheap, hcs, hz⟩ := hrw rfl
  have hbn : b ≠ nid := fun e => by subst e; rw [hp] at hn; cases hn
  have hM1 : nid < lenR (setRow M b .dead) := by rw [lenR_setRow]; exact hM
  have hbM : b < lenR M := live_lt hlv
  have old : ∀ x, x ≠ nid → x ≠ b → rowAt (setRow (setRow M b .dead) nid (.row true sym (dropN l o))) x = rowAt M x := fun x h1 h2 => by
    rw [rowAt_setRow_other _ _ (Ne.symm h1), rowAt_setRow_other _ _ (Ne.symm h2)]
  have dead : rowAt (setRow (setRow M b .dead) nid (.row true sym (dropN l o))) b = .dead := by
    rw [rowAt_setRow_other _ _ (Ne.symm hbn), rowAt_setRow_same _ hbM]
  have new : rowAt (setRow (setRow M b .dead) nid (.row true sym (dropN l o))) nid = .row true sym (dropN l o) := rowAt_setRow_same _ hM1
  constructor
  · refine ⟨fun x q hx' => ?_, fun x hx' => ?_, fun x y px py hne hx' hy' hpx hpy => ?_⟩
    · rw [lenR_setRow, lenR_setRow]
      by_cases e : x = nid
      · subst e; exact hM
      · rw [upd_other _ e] at hx'; exact h.dom x q hx'
    · by_cases e : x = nid
      · subst e
        refine ⟨_, upd_same _ _ _, ?_⟩
        rw [new]
        refine ⟨hb, fun i s hi' => ?_, fun hs i s hi' => hflat hs (o + i) s (by rw [← nth_drop]; exact hi'), fun _ => ⟨by rw [lenS_drop]; show p.base + o + _ ≤ p.fin; omega, c, T, lo, hi, hheap, hcs, hz⟩⟩
        rw [nth_drop] at hi'
        obtain ⟨v, hv, hc⟩ := hcells _ s hi'
        exact ⟨v, hv.ext hx, by show w.cell? ⟨p.blk, p.base + o + i, none⟩ = some v; rw [Nat.add_assoc]; exact hc⟩
      · by_cases e' : x = b
        · subst e'; rw [dead] at hx'; cases hx'
        · rw [old x e e'] at hx' ⊢
          obtain ⟨px, hpx, hrx⟩ := h.rows x hx'
          exact ⟨px, by rw [upd_other _ e]; exact hpx, hrx.keep hx (Nat.le_refl _) rfl⟩
    · have src : ∀ z pz, (rowAt (setRow (setRow M b .dead) nid (.row true sym (dropN l o))) z).live = true → upd ρ nid ⟨p.blk, p.base + o, p.fin⟩ z = some pz →
          ∃ z0 p0, ρ z0 = some p0 ∧ p0.blk = pz.blk ∧ (z = nid → z0 = b) ∧ (z ≠ nid → z0 = z ∧ z ≠ b) := fun z pz hz hpz => by
        by_cases e : z = nid
        · subst e; rw [upd_same] at hpz; cases hpz; exact ⟨b, p, hp, rfl, fun _ => rfl, fun e => absurd rfl e⟩
        · rw [upd_other _ e] at hpz
          refine ⟨z, pz, hpz, rfl, fun e' => absurd e' e, fun _ => ⟨rfl, fun e' => ?_⟩⟩
          subst e'; rw [dead] at hz; cases hz
      obtain ⟨x0, p0, h1, h2, h3, h4⟩ := src x px (rw_live hx') hpx
      obtain ⟨y0, q0, g1, g2, g3, g4⟩ := src y py hy' hpy
      have hx0 : (rowAt M x0).rw = true := by
        by_cases e : x = nid
        · rw [h3 e, hrow]; rfl
        · rw [old x e (h4 e).2] at hx'; rw [(h4 e).1]; exact hx'
      have hy0 : (rowAt M y0).live = true := by
        by_cases e : y = nid
        · rw [g3 e]; exact hlv
        · rw [old y e (g4 e).2] at hy'; rw [(g4 e).1]; exact hy'
      have hne0 : x0 ≠ y0 := fun e => by
        by_cases ex : x = nid
        · by_cases ey : y = nid
          · exact hne (ex.trans ey.symm)
          · rw [h3 ex, (g4 ey).1] at e; exact (g4 ey).2 e.symm
        · by_cases ey : y = nid
          · rw [g3 ey, (h4 ex).1] at e; exact (h4 ex).2 e
          · rw [(h4 ex).1, (g4 ey).1] at e; exact hne e
      have := h.apart x0 y0 p0 q0 hne0 hx0 hy0 h1 g1
      omega
  · refine ⟨hx, rfl, rfl, rfl, Nat.le_refl _, fun _ _ _ => rfl, fun k ⟨x, px, hx', hpx, hk⟩ => .inl ?_, fun x px hlx hpx => ?_⟩
    · by_cases e : x = nid
      · subst e; rw [upd_same] at hpx; cases hpx; exact ⟨b, p, by rw [hrow]; rfl, hp, hk⟩
      · by_cases e' : x = b
        · subst e'; rw [dead] at hx'; cases hx'
        · rw [old x e e'] at hx'; rw [upd_other _ e] at hpx; exact ⟨x, px, hx', hpx, hk⟩
    · by_cases e : x = nid
      · subst e; rw [upd_same] at hpx; cases hpx; exact .inr (.inr ⟨b, p, by rw [hrow]; rfl, hp, rfl⟩)
      · rw [upd_other _ e] at hpx
        by_cases e' : x = b
        · subst e'; rw [dead] at hlx; cases hlx
        · rw [old x e e'] at hlx; exact .inl ⟨hlx, hpx⟩
end Go.Proofs.Ytnmeeafnobfobaa.VM
