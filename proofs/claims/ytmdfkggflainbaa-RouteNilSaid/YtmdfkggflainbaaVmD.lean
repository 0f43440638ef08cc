/- The evaluator: memory from state to state. -/
import Derived.Test.YtmdfkggflainbaaVmC
import Derived.RangeFuncRecord
namespace Go.Proofs.Ytmdfkggflainbaa.VM
open Go.RowKit
set_option linter.unusedVariables false
set_option linter.unusedSimpArgs false
variable {ρ ρ' ρ'' : PMap} {M M' M'' : List Row} {w w' w'' : World}

theorem Ev.refl (ρ : PMap) (M : List Row) (w : World) : Ev ρ M w ρ M w :=
  ⟨fun _ _ h => h, rfl, rfl, rfl, Nat.le_refl _, fun _ _ _ => rfl, fun _ h => .inl h, fun _ _ _ hl h hc => .inl ⟨hl, h, hc⟩⟩
theorem Ev.trans (h : Ev ρ M w ρ' M' w') (h' : Ev ρ' M' w' ρ'' M'' w'') : Ev ρ M w ρ'' M'' w'' where
  ext := fun b p x => h'.ext b p (h.ext b p x)
  os := h'.os.trans h.os
  tape := h'.tape.trans h.tape
  output := h'.output.trans h.output
  size := Nat.le_trans h.size h'.size
  frame := fun k hk hno => by
    rw [h'.frame k (Nat.lt_of_lt_of_le hk h.size) (fun ho => ?_), h.frame k hk hno]
    rcases h.owned k ho with h1 | h1
    · exact hno h1
    · omega
  owned := fun k hk => by
    rcases h'.owned k hk with h1 | h1
    · exact h.owned k h1
    · exact .inr (Nat.le_trans h.size h1)
  fresh := fun b p k hl hb hc => by
    rcases h'.fresh b p k hl hb hc with h1 | h1 | h1
    · exact h.fresh b p k h1.1 h1.2.1 h1.2.2
    · exact .inr (.inl (Nat.le_trans h.size h1))
    · rcases h.owned _ h1 with h2 | h2
      · exact .inr (.inr h2)
      · exact .inr (.inl h2)
theorem cell_of_heap {w w' : World} {a : Addr} (h : w'.heap[a.block]? = w.heap[a.block]?) : w'.cell? a = w.cell? a := by
  simp only [World.cell?, h]
theorem entsIs.ext : ∀ {es : List MEnt} {l : List MapEntry}, entsIs ρ es l → Ext ρ ρ' → entsIs ρ' es l
  | [], _, h, _ => h
  | _ :: _, _, ⟨u, r, h1, h2, h3⟩, hx => ⟨u, r, h1, PV.Is.ext hx h2, h3.ext hx⟩
theorem LoopIs.ext {L : Go.Loop} {n : Nat} {sl : Slots} {ps : List Nat} {asg body : VCode} {pend : LS} (h : LoopIs ρ L n sl ps asg body pend) (hx : Ext ρ ρ') : LoopIs ρ' L n sl ps asg body pend :=
  ⟨h.size, fun t v hv => by obtain ⟨u, h1, h2⟩ := h.slots t v hv; exact ⟨u, h1, h2.ext hx⟩, h.params, h.lt, h.asg, h.body, h.pend⟩
theorem lt_of_heap {b : Nat} {o : Obj} (h : w.heap[b]? = some o) : b < w.heap.size := (Array.getElem?_eq_some_iff.1 h).1
theorem RowOk.blk_lt {p : Place} {r : Row} (h : RowOk ρ w p r) (hl : r.live = true) : p.blk < w.heap.size := by
  cases r with
  | dead => cases hl
  | row rw sym l => exact h.1
  | map es c => obtain ⟨a, h1, _⟩ := h; exact lt_of_heap h1
  | mapv es c => obtain ⟨a, h1, _⟩ := h; exact lt_of_heap h1
  | iter m since seen st => obtain ⟨_, q, _, h1⟩ := h; exact lt_of_heap h1
  | iter0 => exact lt_of_heap h.2
  | loop n keep sl ps asg body pend => obtain ⟨_, L, h1, _⟩ := h; exact lt_of_heap h1
  | abs A => exact A.lt _ _ _ h.2 (A.self _ _ h.2)
theorem RowOk.cov_lt {p : Place} {r : Row} {k : Nat} (h : RowOk ρ w p r) (hc : r.cov w p k) : k < w.heap.size := by
  cases r with
  | dead => cases hc
  | abs A => exact A.lt _ _ _ h.2 hc
  | _ => obtain rfl : k = p.blk := hc; exact h.blk_lt rfl
theorem RowOk.cov_blk {p : Place} {r : Row} (h : RowOk ρ w p r) (hl : r.live = true) : r.cov w p p.blk := by
  cases r with
  | dead => cases hl
  | abs A => exact A.self _ _ h.2
  | _ => rfl
/-- A row whose blocks have not changed. -/
theorem RowOk.keep' {p : Place} {r : Row} (h : RowOk ρ w p r) (hx : Ext ρ ρ') (hs : w.heap.size ≤ w'.heap.size) (hb : ∀ k, r.cov w p k → w'.heap[k]? = w.heap[k]?) : RowOk ρ' w' p r ∧ ∀ k, r.cov w' p k → r.cov w p k := by
  cases r with
  | dead => exact ⟨trivial, fun _ h => h⟩
  | row rw sym l =>
    have hb := hb p.blk rfl
    obtain ⟨h1, h2, h3, h4⟩ := h
    refine ⟨⟨by omega, fun i s hi => ?_, h3, fun hr => ?_⟩, fun _ h => h⟩
    · obtain ⟨v, hv, hc⟩ := h2 i s hi
      exact ⟨v, hv.ext hx, (cell_of_heap hb).trans hc⟩
    · obtain ⟨h5, c, T, lo, hi, h6, h7⟩ := h4 hr
      exact ⟨h5, c, T, lo, hi, hb.trans h6, h7⟩
  | map es c => obtain ⟨a, h1, h2⟩ := h; exact ⟨⟨a, (hb p.blk rfl).trans h1, h2⟩, fun _ h => h⟩
  | mapv es c => obtain ⟨a, h1, h2, h3⟩ := h; exact ⟨⟨a, (hb p.blk rfl).trans h1, h2.ext hx, h3⟩, fun _ h => h⟩
  | iter m since seen st => obtain ⟨h0, q, h1, h2⟩ := h; exact ⟨⟨h0, q, hx _ _ h1, (hb p.blk rfl).trans h2⟩, fun _ h => h⟩
  | iter0 => exact ⟨⟨h.1, (hb p.blk rfl).trans h.2⟩, fun _ h => h⟩
  | loop n keep sl ps asg body pend => obtain ⟨h0, L, h1, h2⟩ := h; exact ⟨⟨h0, L, (hb p.blk rfl).trans h1, h2.ext hx⟩, fun _ h => h⟩
  | abs A =>
    obtain ⟨h0, h1⟩ := h
    obtain ⟨g1, g2⟩ := A.keep _ _ _ h1 hs hb
    exact ⟨⟨h0, g1⟩, g2⟩
/-- The world alone goes on, without a change of what is there. -/
theorem Rep.same (h : Rep ρ M w) (hs : w.heap.size ≤ w'.heap.size) (hb : ∀ k, k < w.heap.size → w'.heap[k]? = w.heap[k]?) : Rep ρ M w' := by
  have key : ∀ b p, (rowAt M b).live = true → ρ b = some p → RowOk ρ w' p (rowAt M b) ∧ ∀ k, (rowAt M b).cov w' p k → (rowAt M b).cov w p k := fun b p hl hp => by
    obtain ⟨q, hq, hr⟩ := h.rows b hl
    rw [hp] at hq; cases hq
    exact hr.keep' (fun _ _ x => x) hs fun k hk => hb k (hr.cov_lt hk)
  refine ⟨h.dom, fun b hl => ?_, fun b c p q k hne hb' hc' hp hq hk hk' => ?_⟩
  · obtain ⟨p, hp, _⟩ := h.rows b hl
    exact ⟨p, hp, (key b p hl hp).1⟩
  · exact h.apart b c p q k hne hb' hc' hp hq ((key b p (rw_live hb') hp).2 k hk) ((key c q hc' hq).2 k hk')
theorem owned_same (h : Rep ρ M w) (hs : w.heap.size ≤ w'.heap.size) (hb : ∀ k, k < w.heap.size → w'.heap[k]? = w.heap[k]?) {k : Nat} (ho : Owned ρ M w' k) : Owned ρ M w k := by
  obtain ⟨b, p, h1, h2, h3⟩ := ho
  obtain ⟨q, hq, hr⟩ := h.rows b (rw_live h1)
  rw [h2] at hq; cases hq
  exact ⟨b, p, h1, h2, (hr.keep' (fun _ _ x => x) hs fun k hk => hb k (hr.cov_lt hk)).2 k h3⟩
theorem Ev.same (h : Rep ρ M w) (hos : w'.os = w.os) (htp : w'.tape = w.tape) (hout : w'.output = w.output) (hs : w.heap.size ≤ w'.heap.size) (hb : ∀ k, k < w.heap.size → w'.heap[k]? = w.heap[k]?) : Ev ρ M w ρ M w' :=
  ⟨fun _ _ h => h, hos, htp, hout, hs, fun k hk _ => hb k hk, fun k hk => .inl (owned_same h hs hb hk), fun b p k hl hp hc => .inl ⟨hl, hp, by
    obtain ⟨q, hq, hr⟩ := h.rows b hl
    rw [hp] at hq; cases hq
    exact (hr.keep' (fun _ _ x => x) hs fun k hk => hb k (hr.cov_lt hk)).2 k hc⟩⟩
theorem Rep.drew (h : Rep ρ M w) : Rep ρ M w.drew := h.same (Nat.le_refl _) (fun _ _ => rfl)
theorem Rep.draws (h : Rep ρ M w) (n : Nat) : Rep ρ M { w with drawn := n } := h.same (Nat.le_refl _) (fun _ _ => rfl)
theorem Ev.draws (h : Ev ρ M w ρ' M' w') (hR : Rep ρ' M' w') (n : Nat) : Ev ρ M w ρ' M' { w' with drawn := n } := h.trans (.same hR rfl rfl rfl (Nat.le_refl _) (fun _ _ => rfl))
theorem Ev.drew (h : Ev ρ M w ρ' M' w') (hR : Rep ρ' M' w') : Ev ρ M w ρ' M' w'.drew := h.trans (.same hR rfl rfl rfl (Nat.le_refl _) (fun _ _ => rfl))
/-- The names, and one name more. -/
def upd (ρ : PMap) (n : Nat) (p : Place) : PMap := fun b => if b = n then some p else ρ b
theorem upd_ext {n : Nat} {p : Place} (h : ρ n = none) : Ext ρ (upd ρ n p) := fun b q hb => by
  unfold upd
  by_cases e : b = n
  · subst e; rw [h] at hb; cases hb
  · rw [if_neg e]; exact hb
theorem upd_same (ρ : PMap) (n : Nat) (p : Place) : upd ρ n p n = some p := if_pos rfl
theorem upd_other {n b : Nat} (p : Place) (h : b ≠ n) : upd ρ n p b = ρ b := if_neg h
/-- A row that is dead, and was not: nothing is lost. -/
theorem Rep.kill (h : Rep ρ M w) (b : Nat) : Rep ρ (setRow M b .dead) w where
  dom := fun c p hc => by rw [lenR_setRow]; exact h.dom c p hc
  rows := fun c hl => by
    rw [rowAt_setRow] at hl ⊢
    split at hl
    · cases hl
    · rename_i hn; rw [if_neg hn]; exact h.rows c hl
  apart := fun c d p q k hne hc hd hp hq hk => by
    rw [rowAt_setRow] at hc hd hk ⊢
    split at hc
    · cases hc
    · rename_i h1
      rw [if_neg h1] at hk
      split at hd
      · cases hd
      · rename_i h2; rw [if_neg h2]; exact h.apart c d p q k hne hc hd hp hq hk
theorem Ev.kill (b : Nat) : Ev ρ M w ρ (setRow M b .dead) w where
  ext := fun _ _ h => h
  os := rfl
  tape := rfl
  output := rfl
  size := Nat.le_refl _
  frame := fun _ _ _ => rfl
  owned := fun k ⟨c, p, h1, h2, h3⟩ => by
    rw [rowAt_setRow] at h1 h3
    split at h1
    · cases h1
    · rename_i hn; rw [if_neg hn] at h3; exact .inl ⟨c, p, h1, h2, h3⟩
  fresh := fun c p k hl h hc => by
    rw [rowAt_setRow] at hl hc
    split at hl
    · cases hl
    · rename_i hn; rw [if_neg hn] at hc; exact .inl ⟨hl, h, hc⟩
/-- A new block, and its row. -/
theorem new_obj {nid fin : Nat} {o : Obj} {r : Row} (h : Rep ρ M w) (hn : ρ nid = none) (hM : nid < lenR M) (hd : rowAt M nid = .dead)
    (hw : w'.heap = w.heap.push o) (h1 : w'.os = w.os) (h2 : w'.tape = w.tape) (h3 : w'.output = w.output)
    (hok : RowOk (upd ρ nid ⟨w.heap.size, 0, fin⟩) w' ⟨w.heap.size, 0, fin⟩ r) (hcov : ∀ k, r.cov w' ⟨w.heap.size, 0, fin⟩ k → k = w.heap.size) :
    Rep (upd ρ nid ⟨w.heap.size, 0, fin⟩) (setRow M nid r) w' ∧ Ev ρ M w (upd ρ nid ⟨w.heap.size, 0, fin⟩) (setRow M nid r) w' := by
  have hx := upd_ext (p := ⟨w.heap.size, 0, fin⟩) hn
  have hsz : w'.heap.size = w.heap.size + 1 := by rw [hw]; simp
  have hold : ∀ k, k < w.heap.size → w'.heap[k]? = w.heap[k]? := fun k hk => by rw [hw, Array.getElem?_push, if_neg (by omega)]
  have old : ∀ b p, (rowAt M b).live = true → ρ b = some p → RowOk (upd ρ nid ⟨w.heap.size, 0, fin⟩) w' p (rowAt M b) ∧ (∀ k, (rowAt M b).cov w' p k → (rowAt M b).cov w p k ∧ k < w.heap.size) := fun b p hl hp => by
    obtain ⟨q, hq, hr⟩ := h.rows b hl
    rw [hp] at hq; cases hq
    obtain ⟨g1, g2⟩ := hr.keep' hx (by omega) fun k hk => hold k (hr.cov_lt hk)
    exact ⟨g1, fun k hk => ⟨g2 k hk, hr.cov_lt (g2 k hk)⟩⟩
  have nl : ∀ b, (rowAt M b).live = true → b ≠ nid := fun b hl e => by subst e; rw [hd] at hl; cases hl
  constructor
  · refine ⟨fun b p hb => ?_, fun b hlv => ?_, fun b d p q k hne hb hdl hp hq hk hk' => ?_⟩
    · rw [lenR_setRow]
      by_cases e : b = nid
      · subst e; exact hM
      · rw [upd_other _ e] at hb; exact h.dom b p hb
    · by_cases e : b = nid
      · subst e
        exact ⟨_, upd_same _ _ _, by rw [rowAt_setRow_same _ hM]; exact hok⟩
      · rw [rowAt_setRow_other _ _ (Ne.symm e)] at hlv ⊢
        obtain ⟨p, hp, _⟩ := h.rows b hlv
        exact ⟨p, by rw [upd_other _ e]; exact hp, (old b p hlv hp).1⟩
    · by_cases e : b = nid
      · subst e
        rw [upd_same] at hp; cases hp
        rw [rowAt_setRow_same _ hM] at hk
        rw [rowAt_setRow_other _ _ hne] at hdl hk'
        rw [upd_other _ (Ne.symm hne)] at hq
        have := ((old d q hdl hq).2 k hk').2
        have := hcov k hk
        omega
      · rw [rowAt_setRow_other _ _ (Ne.symm e)] at hb hk
        rw [upd_other _ e] at hp
        have hkb := (old b p (rw_live hb) hp).2 k hk
        by_cases e' : d = nid
        · subst e'
          rw [upd_same] at hq; cases hq
          rw [rowAt_setRow_same _ hM] at hk'
          have := hcov k hk'
          omega
        · rw [rowAt_setRow_other _ _ (Ne.symm e')] at hdl hk'
          rw [upd_other _ e'] at hq
          exact h.apart b d p q k hne hb hdl hp hq hkb.1 ((old d q hdl hq).2 k hk').1
  · refine ⟨hx, h1, h2, h3, by omega, fun k hk _ => hold k hk, fun k ⟨b, p, hb, hp, hk⟩ => ?_, fun b p k hlb hb hk => ?_⟩
    · by_cases e : b = nid
      · subst e; rw [upd_same] at hp; cases hp
        rw [rowAt_setRow_same _ hM] at hk
        exact .inr (by rw [hcov k hk]; exact Nat.le_refl _)
      · rw [rowAt_setRow_other _ _ (Ne.symm e)] at hb hk
        rw [upd_other _ e] at hp
        exact .inl ⟨b, p, hb, hp, ((old b p (rw_live hb) hp).2 k hk).1⟩
    · by_cases e : b = nid
      · subst e; rw [upd_same] at hb; cases hb
        rw [rowAt_setRow_same _ hM] at hk
        exact .inr (.inl (by rw [hcov k hk]; exact Nat.le_refl _))
      · rw [upd_other _ e] at hb; rw [rowAt_setRow_other _ _ (Ne.symm e)] at hlb hk
        exact .inl ⟨hlb, hb, ((old b p hlb hb).2 k hk).1⟩
/-- A block is written, and its row is another one. -/
theorem set_obj {b : Nat} {p : Place} {r : Row} (h : Rep ρ M w) (hrw : (rowAt M b).rw = true) (hp : ρ b = some p) (hblk : (rowAt M b).cov w p p.blk)
    (hsz : w'.heap.size = w.heap.size) (hother : ∀ k, k ≠ p.blk → w'.heap[k]? = w.heap[k]?) (h1 : w'.os = w.os) (h2 : w'.tape = w.tape) (h3 : w'.output = w.output)
    (hok : RowOk ρ w' p r) (hcov : ∀ k, r.cov w' p k → k = p.blk) :
    Rep ρ (setRow M b r) w' ∧ Ev ρ M w ρ (setRow M b r) w' := by
  have hlv := rw_live hrw
  have hM : b < lenR M := live_lt hlv
  have old : ∀ x px, x ≠ b → (rowAt M x).live = true → ρ x = some px → RowOk ρ w' px (rowAt M x) ∧ (∀ k, (rowAt M x).cov w' px k → (rowAt M x).cov w px k) := fun x px e hl hpx => by
    obtain ⟨q, hq, hr⟩ := h.rows x hl
    rw [hpx] at hq; cases hq
    exact hr.keep' (fun _ _ a => a) (by omega) fun k hk => hother k (fun e' => h.apart b x p px k (Ne.symm e) hrw hl hp hpx (by rw [e']; exact hblk) hk)
  constructor
  · refine ⟨fun x q hx => by rw [lenR_setRow]; exact h.dom x q hx, fun x hx => ?_, fun x y px py k hne hx hy hpx hpy hk hk' => ?_⟩
    · by_cases e : x = b
      · subst e
        exact ⟨p, hp, by rw [rowAt_setRow_same _ hM]; exact hok⟩
      · rw [rowAt_setRow_other _ _ (Ne.symm e)] at hx ⊢
        obtain ⟨px, hpx, _⟩ := h.rows x hx
        exact ⟨px, hpx, (old x px e hx hpx).1⟩
    · by_cases e : x = b
      · subst e
        rw [hp] at hpx; cases hpx
        rw [rowAt_setRow_same _ hM] at hk
        rw [rowAt_setRow_other _ _ hne] at hy hk'
        rw [hcov k hk] at hk'
        exact h.apart x y p py p.blk hne hrw hy hp hpy hblk ((old y py (Ne.symm hne) hy hpy).2 _ hk')
      · rw [rowAt_setRow_other _ _ (Ne.symm e)] at hx hk
        by_cases e' : y = b
        · subst e'
          rw [hp] at hpy; cases hpy
          rw [rowAt_setRow_same _ hM] at hk'
          rw [hcov k hk'] at hk
          exact h.apart x y px p p.blk hne hx hlv hpx hp ((old x px e (rw_live hx) hpx).2 _ hk) hblk
        · rw [rowAt_setRow_other _ _ (Ne.symm e')] at hy hk'
          exact h.apart x y px py k hne hx hy hpx hpy ((old x px e (rw_live hx) hpx).2 k hk) ((old y py e' hy hpy).2 k hk')
  · refine ⟨fun _ _ a => a, h1, h2, h3, by omega, fun k hk hno => hother k (fun e => hno ⟨b, p, hrw, hp, by rw [e]; exact hblk⟩), fun k ⟨x, px, hx, hpx, hk⟩ => .inl ?_, fun x px k hlx hpx hk => ?_⟩
    · by_cases e : x = b
      · subst e; rw [hp] at hpx; cases hpx
        rw [rowAt_setRow_same _ hM] at hk
        exact ⟨x, p, hrw, hp, by rw [hcov k hk]; exact hblk⟩
      · rw [rowAt_setRow_other _ _ (Ne.symm e)] at hx hk
        exact ⟨x, px, hx, hpx, (old x px e (rw_live hx) hpx).2 k hk⟩
    · by_cases e : x = b
      · subst e; rw [hp] at hpx; cases hpx
        rw [rowAt_setRow_same _ hM] at hk
        exact .inl ⟨hlv, hp, by rw [hcov k hk]; exact hblk⟩
      · rw [rowAt_setRow_other _ _ (Ne.symm e)] at hlx hk
        exact .inl ⟨hlx, hpx, (old x px e hlx hpx).2 k hk⟩
/-- A new block of cells, and its row. -/
theorem new_row {nid : Nat} {c : Array Value} {T : TypeId} {lo hi : Nat} {sym : Bool} {l : List SV} (h : Rep ρ M w) (hn : ρ nid = none) (hM : nid < lenR M)
    (hw : w'.heap = w.heap.push (.cells c T (lo, hi))) (h1 : w'.os = w.os) (h2 : w'.tape = w.tape) (h3 : w'.output = w.output) (hz : lo = hi ∨ c.size ≤ lo)
    (hl : lenS l ≤ c.size) (hc : ∀ i s, nth l i = some s → ∃ v, s.Is ρ v ∧ c[i]? = some v) (hf : sym = true → ∀ i s, nth l i = some s → s.flat = true) (hd : rowAt M nid = .dead) :
    Rep (upd ρ nid ⟨w.heap.size, 0, c.size⟩) (setRow M nid (.row true sym l)) w' ∧ Ev ρ M w (upd ρ nid ⟨w.heap.size, 0, c.size⟩) (setRow M nid (.row true sym l)) w' := by
  have hx := upd_ext (p := ⟨w.heap.size, 0, c.size⟩) hn
  have hnew : w'.heap[w.heap.size]? = some (.cells c T (lo, hi)) := by rw [hw]; simp
  refine new_obj h hn hM hd hw h1 h2 h3 ⟨by show w.heap.size < _; rw [hw]; simp, fun i s hi => ?_, hf, fun _ => ⟨by simpa using hl, c, T, lo, hi, hnew, rfl, hz⟩⟩ (fun k hk => hk)
  obtain ⟨v, hv, hcv⟩ := hc i s hi
  refine ⟨v, hv.ext hx, ?_⟩
  show World.cell? w' ⟨w.heap.size, 0 + i, none⟩ = some v
  simp only [World.cell?, hnew, Nat.zero_add]
  exact hcv
/-! writing -/
theorem oneCell_of_Is {s : SV} {v : Value} (h : s.Is ρ v) : v.oneCell' = true := by
  cases s
  · cases h; rfl
  · cases h; rfl
  · cases h; rfl
  · obtain ⟨p, _, rfl⟩ := h; rfl
  · cases h; rfl
  · obtain ⟨p, a, cap, _, rfl, _⟩ := h; rfl
  · cases h; rfl
  · obtain ⟨vs, rfl, _⟩ := h; rfl
  · cases h; rfl
  · obtain ⟨p, _, rfl⟩ := h; rfl
  · cases h; rfl
  · cases h; rfl
  · cases h; rfl
  · cases h; rfl
  · obtain ⟨p, _, rfl⟩ := h; rfl
  · exact h
theorem oneCells_of_isL : ∀ {l : List SV} {vs : List Value}, isL ρ l vs → ∀ v ∈ vs, v.oneCell' = true
  | [], _, h, v, hv => by simp only [isL] at h; subst h; simp at hv
  | _ :: _, _, ⟨u, r, h1, h2, h3⟩, v, hv => by
    subst h1
    rcases List.mem_cons.1 hv with rfl | hv
    · exact oneCell_of_Is h2
    · exact oneCells_of_isL h3 v hv
theorem heap_setCells_other (b : Nat) : ∀ (vs : List Value) (o : Nat) (w : World) (k : Nat), k ≠ b → (w.setCells b o vs).heap[k]? = w.heap[k]?
  | [], _, _, _, _ => rfl
  | v :: vs, o, w, k, h => by
    show ((w.setCell ⟨b, o, none⟩ v).setCells b (o + 1) vs).heap[k]? = _
    rw [heap_setCells_other b vs (o + 1) _ k h]
    exact Below.heap_setCell _ _ _ _ h
theorem heap_setCells_same (b : Nat) : ∀ (vs : List Value) (o : Nat) (w : World) (c : Array Value) (T : TypeId) (z : Nat × Nat), w.heap[b]? = some (.cells c T z) →
    ∃ c', (w.setCells b o vs).heap[b]? = some (.cells c' T z) ∧ c'.size = c.size
  | [], _, _, c, T, z, h => ⟨c, h, rfl⟩
  | v :: vs, o, w, c, T, z, h => by
    have h1 : (w.setCell ⟨b, o, none⟩ v).heap[b]? = some (.cells (c.setIfInBounds o v) T z) := by
      simp [World.setCell, Array.getElem?_modify, h]
    obtain ⟨c', h2, h3⟩ := heap_setCells_same b vs (o + 1) _ _ T z h1
    exact ⟨c', h2, by rw [h3]; simp⟩
theorem size_setCells (b : Nat) : ∀ (vs : List Value) (o : Nat) (w : World), (w.setCells b o vs).heap.size = w.heap.size
  | [], _, _ => rfl
  | v :: vs, o, w => by
    show ((w.setCell ⟨b, o, none⟩ v).setCells b (o + 1) vs).heap.size = _
    rw [size_setCells b vs]; simp [World.setCell]
theorem streams_setCells (b : Nat) : ∀ (vs : List Value) (o : Nat) (w : World), (w.setCells b o vs).os = w.os ∧ (w.setCells b o vs).tape = w.tape ∧ (w.setCells b o vs).output = w.output
  | [], _, _ => ⟨rfl, rfl, rfl⟩
  | v :: vs, o, w => streams_setCells b vs (o + 1) (w.setCell ⟨b, o, none⟩ v)
/-- A block that may be written: its cells are there, and not frozen. -/
theorem there_of {p : Place} {c : Array Value} {T : TypeId} {lo hi o n : Nat} (h : w.heap[p.blk]? = some (.cells c T (lo, hi))) (hc : c.size = p.fin) (hz : lo = hi ∨ p.fin ≤ lo) (ho : o + n ≤ p.fin) : w.there p.blk o n := fun j hj => by
  constructor
  · simp only [World.cell?, h]
    simp only [Option.isSome_none, Bool.false_eq_true, if_false]
    rw [Array.getElem?_eq_getElem (by omega)]; rfl
  · simp only [World.frozen?, h, Bool.and_eq_false_iff, decide_eq_false_iff_not]
    rcases hz with h | h
    · omega
    · omega
theorem cell_setCells {b o : Nat} {vs : List Value} (ht : w.there b o vs.length) (j : Nat) : (w.setCells b o vs).cell? ⟨b, j, none⟩ = if o ≤ j ∧ j < o + vs.length then vs[j - o]? else w.cell? ⟨b, j, none⟩ := by
  by_cases h : o ≤ j ∧ j < o + vs.length
  · rw [if_pos h]
    have e : j = o + (j - o) := by omega
    have hv := World.rangeAt_setCells_same w b o vs ht (j - o) (vs[j - o]'(by omega)) (by simp)
    rw [← e] at hv
    rw [hv, List.getElem?_eq_getElem]
  · rw [if_neg h]
    cases hc : w.cell? ⟨b, j, none⟩ with
    | some v =>
      have := World.rangeAt_setCells_apart (w := w) (b' := b) (o' := j) (cs := [v]) (fun i u hu => by
        have : i = 0 := by
          have := (List.getElem?_eq_some_iff.1 hu).1
          simpa using this
        subst this
        simp only [List.getElem?_cons_zero, Option.some.injEq] at hu
        subst hu; exact hc) b o vs (by simp only [List.length_cons, List.length_nil]; omega)
      exact this 0 v rfl
    | none =>
      have hc0 := hc
      simp only [World.cell?] at hc ⊢
      cases hb : w.heap[b]? with
      | none =>
        have hbs : w.heap.size ≤ b := by
          rcases Nat.lt_or_ge b w.heap.size with h' | h'
          · simp [h'] at hb
          · exact h'
        have : (w.setCells b o vs).heap[b]? = none := by simp [size_setCells, hbs]
        rw [this]
      | some ob =>
        cases ob with
        | cells c T z =>
          rw [hb] at hc
          obtain ⟨c', h1, h2⟩ := heap_setCells_same b vs o w c T z hb
          rw [h1]
          simp only [Option.isSome_none, Bool.false_eq_true, if_false] at hc ⊢
          have : c.size ≤ j := by
            rcases Nat.lt_or_ge j c.size with h' | h'
            · simp [h'] at hc
            · exact h'
          simp [h2, this]
        | _ =>
          cases vs with
          | nil => exact hc0
          | cons v vs =>
            have := (ht 0 (by simp)).1
            simp [World.cell?, hb] at this
/-- Cells of a row that may be written are written; the row may grow into what lies behind it. -/
theorem write_row {b : Nat} {sym sym' : Bool} {l l2 : List SV} {p : Place} {o : Nat} {cs : List SV} {vs : List Value} (h : Rep ρ M w) (hrow : rowAt M b = .row true sym l) (hp : ρ b = some p) (hvs : isL ρ cs vs)
    (hfin : p.base + o + lenS cs ≤ p.fin) (hl2 : p.base + lenS l2 ≤ p.fin)
    (hin : ∀ i s, nth l2 i = some s → o ≤ i → i < o + lenS cs → nth cs (i - o) = some s)
    (hout : ∀ i s, nth l2 i = some s → (i < o ∨ o + lenS cs ≤ i) → nth l i = some s)
    (hf : sym' = true → ∀ i s, nth l2 i = some s → s.flat = true) :
    Rep ρ (setRow M b (.row true sym' l2)) (w.setCells p.blk (p.base + o) vs) ∧ Ev ρ M w ρ (setRow M b (.row true sym' l2)) (w.setCells p.blk (p.base + o) vs) := by
  have hlen := isL_len hvs
  have hlv : (rowAt M b).live = true := by rw [hrow]; rfl
  obtain ⟨q, hq, hr⟩ := h.rows b hlv
  rw [hp] at hq; cases hq
  rw [hrow] at hr
  obtain ⟨hb, hcells, hflat, hrw⟩ := hr
  obtain ⟨hbl, c, T, lo, hi, hheap, hcs, hz⟩ := hrw rfl
  have ht : w.there p.blk (p.base + o) vs.length := there_of hheap hcs hz (by omega)
  have hsz := size_setCells p.blk vs (p.base + o) w
  have hstr := streams_setCells p.blk vs (p.base + o) w
  obtain ⟨c', hh', hc'⟩ := heap_setCells_same p.blk vs (p.base + o) w c T (lo, hi) hheap
  refine set_obj h (by rw [hrow]; rfl) hp (by rw [hrow]; rfl) hsz (fun k hk => heap_setCells_other _ _ _ _ _ hk) hstr.1 hstr.2.1 hstr.2.2 ⟨by omega, fun i s hi' => ?_, hf, fun _ => ⟨hl2, c', T, lo, hi, hh', by omega, hz⟩⟩ (fun k hk => hk)
  rw [cell_setCells ht]
  by_cases hin' : o ≤ i ∧ i < o + lenS cs
  · rw [if_pos (by omega)]
    obtain ⟨v, hv, hvI⟩ := nth_isL hvs (hin i s hi' hin'.1 hin'.2)
    exact ⟨v, hvI, by rw [show p.base + i - (p.base + o) = i - o by omega]; exact hv⟩
  · rw [if_neg (by omega)]
    exact hcells i s (hout i s hi' (by omega))
/-- A row gets another name, from one of its cells on. -/
theorem move_row {b nid : Nat} {sym : Bool} {l : List SV} {p : Place} (o : Nat) (h : Rep ρ M w) (hrow : rowAt M b = .row true sym l) (hp : ρ b = some p) (hn : ρ nid = none) (hM : nid < lenR M) (ho : o ≤ lenS l) :
    Rep (upd ρ nid ⟨p.blk, p.base + o, p.fin⟩) (setRow (setRow M b .dead) nid (.row true sym (dropN l o))) w ∧
    Ev ρ M w (upd ρ nid ⟨p.blk, p.base + o, p.fin⟩) (setRow (setRow M b .dead) nid (.row true sym (dropN l o))) w := by
  have hx := upd_ext (p := ⟨p.blk, p.base + o, p.fin⟩) hn
  have hlv : (rowAt M b).live = true := by rw [hrow]; rfl
  obtain ⟨q, hq, hr⟩ := h.rows b hlv
  rw [hp] at hq; cases hq
  rw [hrow] at hr
  obtain ⟨hb, hcells, hflat, hrw⟩ := hr
  obtain ⟨hbl, c, T, lo, hi, hheap, hcs, hz⟩ := hrw rfl
  have hbn : b ≠ nid := fun e => by subst e; rw [hp] at hn; cases hn
  have hM1 : nid < lenR (setRow M b .dead) := by rw [lenR_setRow]; exact hM
  have hbM : b < lenR M := live_lt hlv
  have old : ∀ x, x ≠ nid → x ≠ b → rowAt (setRow (setRow M b .dead) nid (.row true sym (dropN l o))) x = rowAt M x := fun x h1 h2 => by
    rw [rowAt_setRow_other _ _ (Ne.symm h1), rowAt_setRow_other _ _ (Ne.symm h2)]
  have dead : rowAt (setRow (setRow M b .dead) nid (.row true sym (dropN l o))) b = .dead := by
    rw [rowAt_setRow_other _ _ (Ne.symm hbn), rowAt_setRow_same _ hbM]
  have new : rowAt (setRow (setRow M b .dead) nid (.row true sym (dropN l o))) nid = .row true sym (dropN l o) := rowAt_setRow_same _ hM1
  -- where each row was
  have src : ∀ z pz, (rowAt (setRow (setRow M b .dead) nid (.row true sym (dropN l o))) z).live = true → upd ρ nid ⟨p.blk, p.base + o, p.fin⟩ z = some pz →
      ∃ z0 p0, ρ z0 = some p0 ∧ (rowAt M z0).live = true ∧ (∀ k, (rowAt (setRow (setRow M b .dead) nid (.row true sym (dropN l o))) z).cov w pz k → (rowAt M z0).cov w p0 k) ∧
        ((rowAt (setRow (setRow M b .dead) nid (.row true sym (dropN l o))) z).rw = true → (rowAt M z0).rw = true) ∧ (z = nid → z0 = b) ∧ (z ≠ nid → z0 = z ∧ z ≠ b ∧ p0 = pz) := fun z pz hz hpz => by
    by_cases e : z = nid
    · subst e; rw [upd_same] at hpz; cases hpz
      refine ⟨b, p, hp, hlv, fun k hk => ?_, fun _ => by rw [hrow]; rfl, fun _ => rfl, fun e => absurd rfl e⟩
      rw [new] at hk; rw [hrow]; exact hk
    · rw [upd_other _ e] at hpz
      have e2 : z ≠ b := fun e' => by subst e'; rw [dead] at hz; cases hz
      rw [old z e e2] at hz ⊢
      exact ⟨z, pz, hpz, hz, fun _ h => h, fun h => h, fun e' => absurd e' e, fun _ => ⟨rfl, e2, rfl⟩⟩
  constructor
  · refine ⟨fun x q hx' => ?_, fun x hx' => ?_, fun x y px py k hne hx' hy' hpx hpy hk hk' => ?_⟩
    · rw [lenR_setRow, lenR_setRow]
      by_cases e : x = nid
      · subst e; exact hM
      · rw [upd_other _ e] at hx'; exact h.dom x q hx'
    · by_cases e : x = nid
      · subst e
        refine ⟨_, upd_same _ _ _, ?_⟩
        rw [new]
        refine ⟨hb, fun i s hi' => ?_, fun hs i s hi' => hflat hs (o + i) s (by rw [← nth_drop]; exact hi'), fun _ => ⟨by rw [lenS_drop]; show p.base + o + _ ≤ p.fin; omega, c, T, lo, hi, hheap, hcs, hz⟩⟩
        rw [nth_drop] at hi'
        obtain ⟨v, hv, hc⟩ := hcells _ s hi'
        exact ⟨v, hv.ext hx, by show w.cell? ⟨p.blk, p.base + o + i, none⟩ = some v; rw [Nat.add_assoc]; exact hc⟩
      · by_cases e' : x = b
        · subst e'; rw [dead] at hx'; cases hx'
        · rw [old x e e'] at hx' ⊢
          obtain ⟨px, hpx, hrx⟩ := h.rows x hx'
          exact ⟨px, by rw [upd_other _ e]; exact hpx, (hrx.keep' hx (Nat.le_refl _) (fun _ _ => rfl)).1⟩
    · obtain ⟨x0, p0, h1, h2, h3, h4, h5, h6⟩ := src x px (rw_live hx') hpx
      obtain ⟨y0, q0, g1, g2, g3, g4, g5, g6⟩ := src y py hy' hpy
      have hne0 : x0 ≠ y0 := fun e => by
        by_cases ex : x = nid
        · by_cases ey : y = nid
          · exact hne (ex.trans ey.symm)
          · rw [h5 ex, (g6 ey).1] at e; exact (g6 ey).2.1 e.symm
        · by_cases ey : y = nid
          · rw [g5 ey, (h6 ex).1] at e; exact (h6 ex).2.1 e
          · rw [(h6 ex).1, (g6 ey).1] at e; exact hne e
      exact h.apart x0 y0 p0 q0 k hne0 (h4 hx') g2 h1 g1 (h3 k hk) (g3 k hk')
  · refine ⟨hx, rfl, rfl, rfl, Nat.le_refl _, fun _ _ _ => rfl, fun k ⟨x, px, hx', hpx, hk⟩ => .inl ?_, fun x px k hlx hpx hk => ?_⟩
    · obtain ⟨x0, p0, h1, h2, h3, h4, _, _⟩ := src x px (rw_live hx') hpx
      exact ⟨x0, p0, h4 hx', h1, h3 k hk⟩
    · obtain ⟨x0, p0, h1, h2, h3, h4, h5, h6⟩ := src x px hlx hpx
      by_cases e : x = nid
      · have e2 := h5 e
        subst e2
        exact .inr (.inr ⟨x0, p0, by rw [hrow]; rfl, h1, h3 k hk⟩)
      · obtain ⟨g1, g2, g3⟩ := h6 e
        subst g1; subst g3
        exact .inl ⟨h2, h1, h3 k hk⟩
/-! what lies below -/
theorem Low.ev {G : Ground} (h : Low G ρ M w) (hE : Ev ρ M w ρ' M' w') : Low G ρ' M' w' where
  size := Nat.le_trans h.size hE.size
  same := fun k hk => by
    rw [hE.frame k (Nat.lt_of_lt_of_le hk h.size) (fun ho => by have := h.high k ho; omega)]
    exact h.same k hk
  high := fun k hk => by
    rcases hE.owned k hk with h1 | h1
    · exact h.high k h1
    · exact Nat.le_trans h.size h1
end Go.Proofs.Ytmdfkggflainbaa.VM
