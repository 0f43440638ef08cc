/- The evaluator: calls. -/
import Derived.Test.YtmdfkggflainbaaVmJ
namespace Go.Proofs.Ytmdfkggflainbaa.VM
open Go.RowKit
set_option linter.unusedVariables false
set_option linter.unusedSimpArgs false
variable {G : Ground} {P : Program} {ds : List Deferred} {eqs : List Nat} {news : FuncId → Nat} {ρ : PMap} {M : List Row} {w : World} {sl : Env} {a : Act} {n nid : Nat} {o : Oper} {nw : Nat} {K : Eff → Prop}
/-- The names of the rows that are handed over. -/
def into (ρ : PMap) (ids : List Nat) : PMap := fun k => if k < lenI ids then ρ (back ids 0 k) else none
theorem lenR_rowsAt (M : List Row) (g : Nat → Nat) : ∀ ids, lenR (rowsAt M g ids) = lenI ids
  | [] => rfl
  | b :: l => by simp [rowsAt, lenR, lenI, lenR_rowsAt M g l]
theorem rowAt_rowsAt (M : List Row) (g : Nat → Nat) (x : Nat) : ∀ {ids : List Nat} {k : Nat}, k < lenI ids → rowAt (rowsAt M g ids) k = (rowAt M (back ids x k)).ren g
  | [], k, h => by simp [lenI] at h
  | b :: l, 0, h => rfl
  | b :: l, k + 1, h => by simp only [rowsAt, rowAt, back]; exact rowAt_rowsAt M g x (by simp only [lenI] at h; omega)
theorem ren_live (r : Row) (g : Nat → Nat) : (r.ren g).live = r.live := by cases r with
  | row a b l => cases b <;> rfl
  | _ => rfl
theorem ren_rw (r : Row) (g : Nat → Nat) : (r.ren g).rw = r.rw := by cases r with
  | row a b l => cases b <;> rfl
  | _ => rfl
theorem ren_cov (r : Row) (g : Nat → Nat) (w : World) (p : Place) (k : Nat) : (r.ren g).cov w p k ↔ r.cov w p k := by cases r with
  | row a b l => cases b <;> exact Iff.rfl
  | _ => exact Iff.rfl
theorem look_renSl (g : Nat → Nat) : ∀ (sl : Slots) (t : Nat), look (renSl g sl) t = (look sl t).map (V.ren g)
  | [], t => rfl
  | (k, v) :: sl, t => by
    simp only [renSl]
    rw [look, look]
    cases Nat.beq k t
    · exact look_renSl g sl t
    · rfl
theorem look_ids : ∀ {sl : Slots} {t : Nat} {v : V}, look sl t = some v → ∀ b ∈ v.ids, b ∈ idsSl sl
  | [], t, v, h, b, hb => by cases h
  | (k, u) :: sl, t, v, h, b, hb => by
    rw [look] at h
    simp only [idsSl, List.mem_append]
    split at h
    · cases h; exact .inl hb
    · exact .inr (look_ids h b hb)
theorem LoopIs.ren {ρ ρ' : PMap} {g : Nat → Nat} {L : Go.Loop} {n : Nat} {sl : Slots} {ps : List Nat} {asg body : VCode} {pend : LS} (h : LoopIs ρ L n sl ps asg body pend) (hg : ∀ b ∈ idsSl sl, ∀ q, ρ b = some q → ρ' (g b) = some q) :
    LoopIs ρ' L n (renSl g sl) ps asg body pend :=
  ⟨h.size, fun t v hv => by
    rw [look_renSl] at hv
    simp only [Option.map_eq_some_iff] at hv
    obtain ⟨u, hu, rfl⟩ := hv
    obtain ⟨x, hx, hI⟩ := h.slots t u hu
    exact ⟨x, hx, hI.ren fun b hb => hg b (look_ids hu b hb)⟩, h.params, h.lt, h.asg, h.body, h.pend⟩
theorem entsIs.ren {ρ ρ' : PMap} {g : Nat → Nat} : ∀ {es : List MEnt} {l : List MapEntry}, entsIs ρ es l → (∀ b ∈ idsE es, ∀ q, ρ b = some q → ρ' (g b) = some q) → entsIs ρ' (renE g es) l
  | [], _, h, _ => h
  | ⟨_, _, _⟩ :: _, _, ⟨u, r, h1, h2, h3⟩, hg => ⟨u, r, h1, PV.Is.ren (fun b hb => hg b (List.mem_append.2 (.inl hb))) h2, h3.ren fun b hb => hg b (List.mem_append.2 (.inr hb))⟩
theorem mem_renE {g : Nat → Nat} : ∀ {es : List MEnt} {e : MEnt}, e ∈ renE g es → ∃ e', e' ∈ es ∧ e.key = e'.key
  | ⟨_, _, _⟩ :: es, e, h => by
    simp only [renE, List.mem_cons] at h
    rcases h with rfl | h
    · exact ⟨_, .head _, rfl⟩
    · obtain ⟨e', h1, h2⟩ := mem_renE h
      exact ⟨e', .tail _ h1, h2⟩
theorem RowOk.ren {ρ ρ' : PMap} {p : Place} {r : Row} {g : Nat → Nat} (h : RowOk ρ w p r) (hg : ∀ b ∈ r.ids, ∀ q, ρ b = some q → ρ' (g b) = some q) : RowOk ρ' w p (r.ren g) := by
  cases r with
  | dead => trivial
  | row rw_ sym l =>
    obtain ⟨h1, h2, h3, h4⟩ := h
    cases sym with
    | true =>
      refine ⟨h1, fun i s hi => ?_, h3, h4⟩
      obtain ⟨v, hv, hc⟩ := h2 i s hi
      refine ⟨v, ?_, hc⟩
      have hf := h3 rfl i s hi
      cases s <;> first | exact hv | (simp [SV.flat] at hf)
    | false =>
      refine ⟨h1, fun i s hi => ?_, (fun h => by cases h), fun hr => ?_⟩
      · rw [nth_renL] at hi
        simp only [Option.map_eq_some_iff] at hi
        obtain ⟨s', hs', rfl⟩ := hi
        obtain ⟨v, hv, hc⟩ := h2 i s' hs'
        exact ⟨v, hv.ren (fun b hb => hg b (mem_idsL.2 ⟨i, s', hs', hb⟩)), hc⟩
      · obtain ⟨h5, h6⟩ := h4 hr
        exact ⟨by rw [lenS_renL]; exact h5, h6⟩
  | map es c => exact h
  | mapv es c => obtain ⟨a, h1, h2, h3⟩ := h; exact ⟨a, h1, h2.ren hg, fun e he => by obtain ⟨e', h4, h5⟩ := mem_renE he; rw [h5]; exact h3 e' h4⟩
  | iter m since seen st => obtain ⟨h0, q, h1, h2⟩ := h; exact ⟨h0, q, hg m (by simp [Row.ids]) q h1, h2⟩
  | iter0 => exact h
  | loop n keep sl ps asg body pend => obtain ⟨h0, L, h1, h2⟩ := h; exact ⟨h0, L, h1, h2.ren hg⟩
  | abs A => exact h
theorem into_idx {ids : List Nat} {b : Nat} (h : b ∈ ids) : into ρ ids (idx b ids) = ρ b := by
  unfold into
  rw [if_pos (idx_lt h), back_idx 0 h]
theorem into_lt {ids : List Nat} {k : Nat} (h : k < lenI ids) : into ρ ids k = ρ (back ids 0 k) := if_pos h
theorem into_some {ids : List Nat} {k : Nat} {p : Place} (h : into ρ ids k = some p) : k < lenI ids ∧ ρ (back ids 0 k) = some p := by
  unfold into at h
  split at h
  · rename_i hk; exact ⟨hk, h⟩
  · cases h
/-- A part of memory, by other names. -/
theorem Rep.into {ids : List Nat} (h : Rep ρ M w) (hc : ∀ b ∈ ids, ∀ c ∈ (rowAt M b).ids, c ∈ ids) (hd : ids.Nodup) : Rep (into ρ ids) (rowsAt M (fun b => idx b ids) ids) w := by
  refine ⟨fun b p hb => by rw [lenR_rowsAt]; exact (into_some hb).1, fun k hl => ?_, fun j k p q x hne hj hk hp hq hx => ?_⟩
  · have hlt : k < lenI ids := by have := live_lt hl; rwa [lenR_rowsAt] at this
    rw [rowAt_rowsAt M _ 0 hlt] at hl ⊢
    rw [ren_live] at hl
    obtain ⟨p, hp, hr⟩ := h.rows _ hl
    refine ⟨p, by rw [into_lt hlt]; exact hp, hr.ren fun b hb q hq => ?_⟩
    rw [into_idx (hc _ (back_mem 0 hlt) b hb)]; exact hq
  · obtain ⟨hj1, hj2⟩ := into_some hp
    obtain ⟨hk1, hk2⟩ := into_some hq
    rw [rowAt_rowsAt M _ 0 hj1, ren_rw] at hj
    rw [rowAt_rowsAt M _ 0 hj1, ren_cov] at hx
    rw [rowAt_rowsAt M _ 0 hk1, ren_live] at hk
    rw [rowAt_rowsAt M _ 0 hk1, ren_cov]
    refine h.apart _ _ p q x (fun e => hne ?_) hj hk hj2 hk2 hx
    rw [← idx_back 0 hd hj1, e, idx_back 0 hd hk1]
theorem owned_into {ids : List Nat} {k : Nat} (h : Owned (VM.into ρ ids) (rowsAt M (fun b => idx b ids) ids) w k) : Owned ρ M w k := by
  obtain ⟨b, p, h1, h2, h3⟩ := h
  obtain ⟨g1, g2⟩ := into_some h2
  rw [rowAt_rowsAt M _ 0 g1, ren_rw] at h1
  rw [rowAt_rowsAt M _ 0 g1, ren_cov] at h3
  exact ⟨_, p, h1, g2, h3⟩
theorem Low.into {ids : List Nat} (h : Low G ρ M w) : Low G (VM.into ρ ids) (rowsAt M (fun b => idx b ids) ids) w := ⟨h.size, h.same, fun k hk => h.high k (owned_into hk)⟩
theorem mem_idsPL_ok : ∀ {l : List PV} {vs : List Value}, isPL ρ l vs → ∀ b ∈ idsPL l, True := fun _ _ _ => trivial
theorem rowAt_setRows_other : ∀ (l : List (Nat × Row)) (M : List Row) (b : Nat), b ∉ idsOfWr l → rowAt (setRows M l) b = rowAt M b
  | [], _, _, _ => rfl
  | (c, r) :: l, M, b, h => by
    simp only [idsOfWr, List.mem_cons, not_or] at h
    show rowAt (setRows (setRow M c r) l) b = _
    rw [rowAt_setRows_other l _ b h.2, rowAt_setRow_other _ _ (Ne.symm h.1)]
theorem lenR_setRows : ∀ (l : List (Nat × Row)) (M : List Row), lenR (setRows M l) = lenR M
  | [], _ => rfl
  | (c, r) :: l, M => by
    show lenR (setRows (setRow M c r) l) = _
    rw [lenR_setRows l, lenR_setRow]
theorem mem_idsOfWr : ∀ {l : List (Nat × Row)} {b : Nat} {r : Row}, (b, r) ∈ l → b ∈ idsOfWr l
  | (c, s) :: l, b, r, h => by
    simp only [idsOfWr, List.mem_cons]
    rcases List.mem_cons.1 h with h | h
    · cases h; exact .inl rfl
    · exact .inr (mem_idsOfWr h)
theorem rowAt_setRows_mem : ∀ (l : List (Nat × Row)) (M : List Row) (b : Nat) (r : Row), (idsOfWr l).Nodup → (b, r) ∈ l → b < lenR M → rowAt (setRows M l) b = r
  | (c, s) :: l, M, b, r, hd, hm, hb => by
    simp only [idsOfWr, List.nodup_cons] at hd
    show rowAt (setRows (setRow M c s) l) b = r
    rcases List.mem_cons.1 hm with h | h
    · cases h
      rw [rowAt_setRows_other l _ _ hd.1, rowAt_setRow_same _ hb]
    · exact rowAt_setRows_mem l _ b r hd.2 h (by rw [lenR_setRow]; exact hb)
theorem idsOfWr_append : ∀ (l m : List (Nat × Row)), idsOfWr (l ++ m) = idsOfWr l ++ idsOfWr m
  | [], m => rfl
  | (c, r) :: l, m => by simp [idsOfWr, idsOfWr_append l m]
theorem mem_numbered : ∀ (R : List Row) (x b : Nat), b ∈ idsOfWr (numbered x R) ↔ x ≤ b ∧ b < x + lenR R
  | [], x, b => by simp [numbered, idsOfWr, lenR]
  | r :: R, x, b => by
    simp only [numbered, idsOfWr, List.mem_cons, mem_numbered R (x + 1) b, lenR]
    omega
theorem nodup_numbered : ∀ (R : List Row) (x : Nat), (idsOfWr (numbered x R)).Nodup
  | [], x => by simp [numbered, idsOfWr]
  | r :: R, x => by
    simp only [numbered, idsOfWr, List.nodup_cons]
    exact ⟨fun h => by have := (mem_numbered R (x + 1) x).1 h; omega, nodup_numbered R (x + 1)⟩
theorem numbered_get : ∀ (R : List Row) (x j : Nat), j < lenR R → (x + j, rowAt R j) ∈ numbered x R
  | [], x, j, h => by simp [lenR] at h
  | r :: R, x, 0, h => by simp [numbered, rowAt]
  | r :: R, x, j + 1, h => by
    simp only [numbered, rowAt, List.mem_cons]
    have := numbered_get R (x + 1) j (by simp only [lenR] at h; omega)
    rw [show x + (j + 1) = x + 1 + j by omega]; exact .inr this
theorem mem_zipIds : ∀ {ids : List Nat} {R : List Row} {b : Nat}, b ∈ idsOfWr (zipIds ids R) → b ∈ ids
  | c :: l, r :: R, b, h => by
    simp only [zipIds, idsOfWr, List.mem_cons] at h ⊢
    rcases h with h | h
    · exact .inl h
    · exact .inr (mem_zipIds h)
  | [], R, b, h => by cases R <;> simp [zipIds, idsOfWr] at h
  | _ :: _, [], b, h => by simp [zipIds, idsOfWr] at h
theorem nodup_zipIds : ∀ {ids : List Nat} {R : List Row}, ids.Nodup → (idsOfWr (zipIds ids R)).Nodup
  | c :: l, r :: R, h => by
    simp only [zipIds, idsOfWr, List.nodup_cons] at h ⊢
    exact ⟨fun h' => h.1 (mem_zipIds h'), nodup_zipIds h.2⟩
  | [], R, _ => by cases R <;> simp [zipIds, idsOfWr]
  | _ :: _, [], _ => by simp [zipIds, idsOfWr]
theorem zipIds_get (x : Nat) : ∀ {ids : List Nat} {R : List Row} {k : Nat}, k < lenI ids → k < lenR R → (back ids x k, rowAt R k) ∈ zipIds ids R
  | [], _, _, h, _ => by simp [lenI] at h
  | _ :: _, [], _, _, h => by simp [lenR] at h
  | c :: l, r :: R, 0, _, _ => by simp [zipIds, back, rowAt]
  | c :: l, r :: R, k + 1, h, h' => by
    simp only [zipIds, back, rowAt, List.mem_cons]
    exact .inr (zipIds_get x (by simp only [lenI] at h; omega) (by simp only [lenR] at h'; omega))
theorem lenR_dropRows : ∀ (R : List Row) (m : Nat), lenR (dropRows R m) = lenR R - m
  | R, 0 => by simp [dropRows]
  | [], m + 1 => by simp [dropRows, lenR]
  | r :: R, m + 1 => by rw [dropRows, lenR_dropRows R m, lenR]; omega
theorem rowAt_dropRows : ∀ (R : List Row) (m j : Nat), rowAt (dropRows R m) j = rowAt R (m + j)
  | R, 0, j => by simp [dropRows]
  | [], m + 1, j => by simp [dropRows, rowAt]
  | r :: R, m + 1, j => by rw [dropRows, rowAt_dropRows R m j, show m + 1 + j = (m + j) + 1 by omega, rowAt]
theorem lenR_renRows (g : Nat → Nat) : ∀ R, lenR (renRows g R) = lenR R
  | [] => rfl
  | r :: R => by simp [renRows, lenR, lenR_renRows g R]
theorem rowAt_renRows (g : Nat → Nat) : ∀ (R : List Row) (j : Nat), rowAt (renRows g R) j = (rowAt R j).ren g
  | [], j => rfl
  | r :: R, 0 => rfl
  | r :: R, j + 1 => by simp only [renRows, rowAt]; exact rowAt_renRows g R j
theorem outB_iff {nid news : Nat} : ∀ {l : List Nat}, outB nid news l = true → ∀ b ∈ l, b < nid ∨ nid + news ≤ b
  | [], _, b, h => by simp at h
  | c :: l, h, b, hb => by
    simp only [outB, Bool.and_eq_true, Bool.or_eq_true] at h
    rcases List.mem_cons.1 hb with rfl | hb
    · rcases h.1 with h | h
      · exact .inl (Nat.le_of_ble_eq_true h)
      · exact .inr (Nat.le_of_ble_eq_true h)
    · exact outB_iff h.2 b hb
/-- Behind a call: what it says by its names, said by ours. -/
theorem back_from {ids : List Nat} {R : List Row} {ρc : PMap} {w' : World} {nn : Nat} (hR : Rep ρ M w) (hcl : ∀ b ∈ ids, ∀ c ∈ (rowAt M b).ids, c ∈ ids) (hnd : ids.Nodup) (hout : ∀ b ∈ ids, b < nid ∨ nid + nn ≤ b)
    (hres : ∀ i, nid ≤ i → i < nid + nn → ρ i = none ∧ rowAt M i = .dead) (hlt : nid + nn ≤ lenR M) (hm : lenI ids ≤ lenR R) (hn : lenR R ≤ lenI ids + nn)
    (hR' : Rep ρc R w') (hE : Ev (VM.into ρ ids) (rowsAt M (fun b => idx b ids) ids) w ρc R w') (hsame : ∀ b, b < lenI ids → ρc b = VM.into ρ ids b) :
    ∃ ρ', Rep ρ' (setRows M (zipIds ids (renRows (back ids nid) R) ++ numbered nid (dropRows (renRows (back ids nid) R) (lenI ids)))) w' ∧
      Ev ρ M w ρ' (setRows M (zipIds ids (renRows (back ids nid) R) ++ numbered nid (dropRows (renRows (back ids nid) R) (lenI ids)))) w' ∧
      (∀ c q, ρc c = some q → ρ' (back ids nid c) = some q) ∧ (∀ i, (i < nid ∨ nid + nn ≤ i) → ρ' i = ρ i) := by
  let h : Nat → Nat := back ids nid
  let m := lenI ids
  let L := zipIds ids (renRows h R) ++ numbered nid (dropRows (renRows h R) m)
  let ρ' : PMap := fun b => if nid ≤ b ∧ b < nid + (lenR R - m) then ρc (m + (b - nid)) else ρ b
  have hkeys : (idsOfWr L).Nodup := by
    show (idsOfWr (_ ++ _)).Nodup
    rw [idsOfWr_append]
    refine List.nodup_append.2 ⟨nodup_zipIds hnd, nodup_numbered _ _, fun x hx y hy => ?_⟩
    have h1 := hout x (mem_zipIds hx)
    have h2 := (mem_numbered _ _ _).1 hy
    rw [lenR_dropRows, lenR_renRows] at h2
    omega
  have hold : ∀ k, k < m → ∀ b, b = back ids nid k → b < lenR M → rowAt (setRows M L) b = (rowAt R k).ren h := fun k hk b hb hbM => by
    subst hb
    refine rowAt_setRows_mem L M _ _ hkeys (List.mem_append.2 (.inl ?_)) hbM
    have := zipIds_get (ids := ids) (R := renRows h R) nid hk (by rw [lenR_renRows]; omega)
    rwa [rowAt_renRows] at this
  have hnew : ∀ j, j < lenR R - m → rowAt (setRows M L) (nid + j) = (rowAt R (m + j)).ren h := fun j hj => by
    refine rowAt_setRows_mem L M _ _ hkeys (List.mem_append.2 (.inr ?_)) (by omega)
    have := numbered_get (dropRows (renRows h R) m) nid j (by rw [lenR_dropRows, lenR_renRows]; exact hj)
    rwa [rowAt_dropRows, rowAt_renRows] at this
  have hout' : ∀ b, b ∉ ids → ¬ (nid ≤ b ∧ b < nid + (lenR R - m)) → rowAt (setRows M L) b = rowAt M b := fun b h1 h2 => by
    refine rowAt_setRows_other L M b ?_
    show b ∉ idsOfWr (_ ++ _)
    rw [idsOfWr_append, List.mem_append]
    rintro (h3 | h3)
    · exact h1 (mem_zipIds h3)
    · have := (mem_numbered _ _ _).1 h3
      rw [lenR_dropRows, lenR_renRows] at this
      exact h2 this
  have hρold : ∀ b, b ∈ ids → ρ' b = ρ b := fun b hb => by
    show (if _ then _ else _) = _
    rw [if_neg]
    have := hout b hb
    omega
  have hback : ∀ c q, ρc c = some q → ρ' (h c) = some q := fun c q hc => by
    have hcR := hR'.dom c q hc
    by_cases hcm : c < m
    · have := hsame c hcm
      rw [this, into_lt hcm] at hc
      have e : back ids 0 c = back ids nid c := by
        have h1 := back_mem nid hcm
        have h2 := idx_back nid hnd hcm
        have h3 := back_idx 0 h1
        rw [h2] at h3; exact h3
      rw [e] at hc
      rw [hρold _ (back_mem nid hcm)]; exact hc
    · show (if _ then _ else _) = _
      have e : h c = nid + (c - m) := back_ge nid (by show m ≤ c; omega)
      rw [e, if_pos (by omega), show m + (nid + (c - m) - nid) = c by omega]; exact hc
  -- each live row behind the call: an old one that was not handed over, or one of the callee's
  have cases_ : ∀ b, (rowAt (setRows M L) b).live = true → (∃ k, k < lenR R ∧ h k = b ∧ rowAt (setRows M L) b = (rowAt R k).ren h ∧ ρ' b = ρc k) ∨ (b ∉ ids ∧ rowAt (setRows M L) b = rowAt M b ∧ ρ' b = ρ b) := fun b hlv => by
    by_cases h1 : b ∈ ids
    · have hk : idx b ids < m := idx_lt h1
      have e : back ids nid (idx b ids) = b := back_idx nid h1
      have hbM : b < lenR M := by have := live_lt hlv; rwa [lenR_setRows] at this
      refine .inl ⟨idx b ids, by omega, e, hold _ hk b e.symm hbM, ?_⟩
      rw [hρold b h1, hsame _ hk, into_idx h1]
    · by_cases h2 : nid ≤ b ∧ b < nid + (lenR R - m)
      · refine .inl ⟨m + (b - nid), by omega, ?_, ?_, ?_⟩
        · show back ids nid (m + (b - nid)) = b
          rw [back_ge nid (by show m ≤ _; omega)]; omega
        · have := hnew (b - nid) (by omega)
          rwa [show nid + (b - nid) = b by omega] at this
        · show (if _ then _ else _) = _
          rw [if_pos h2]
      · exact .inr ⟨h1, hout' b h1 h2, if_neg h2⟩
  have oldlt : ∀ b p k, (rowAt M b).live = true → ρ b = some p → (rowAt M b).cov w p k → k < w.heap.size := fun b p k hlv hp hk => by
    obtain ⟨q, hq, hr⟩ := hR.rows b hlv
    rw [hp] at hq; cases hq
    exact hr.cov_lt hk
  have hext : Ext ρ ρ' := fun b p hb => by
    show (if _ then _ else _) = _
    rw [if_neg]
    · exact hb
    · intro hc
      have := (hres b hc.1 (by omega)).1
      rw [this] at hb; cases hb
  have ownedc : ∀ k, Owned (VM.into ρ ids) (rowsAt M (fun b => idx b ids) ids) w k → ∀ b p, b ∉ ids → (rowAt M b).live = true → ρ b = some p → ¬ (rowAt M b).cov w p k := fun k ⟨j, q, h1, h2, h3⟩ b p hb hlv hp => by
    obtain ⟨g1, g2⟩ := into_some h2
    rw [rowAt_rowsAt M _ 0 g1, ren_rw] at h1
    rw [rowAt_rowsAt M _ 0 g1, ren_cov] at h3
    exact hR.apart _ b q p k (fun e => hb (e ▸ back_mem 0 g1)) h1 hlv g2 hp h3
  have keepOld : ∀ b p, b ∉ ids → (rowAt M b).live = true → ρ b = some p → RowOk ρ' w' p (rowAt M b) ∧ ∀ k, (rowAt M b).cov w' p k → (rowAt M b).cov w p k := fun b p hb hlv hp => by
    obtain ⟨q, hq, hr⟩ := hR.rows b hlv
    rw [hp] at hq; cases hq
    exact hr.keep' hext hE.size fun k hk => hE.frame k (hr.cov_lt hk) fun ho => ownedc k ho b p hb hlv hp hk
  refine ⟨ρ', ⟨fun b p hb => ?_, fun b hlv => ?_, fun b c p q x hne hb hc hp hq hx hx' => ?_⟩, ⟨hext, hE.os, hE.tape, hE.output, hE.size, fun k hk hno => hE.frame k hk (fun ho => hno (owned_into ho)), fun k ⟨b, p, hb, hp, hk⟩ => ?_, fun b p x hlv hp hx => ?_⟩, hback, fun i hi => ?_⟩
  · rw [lenR_setRows]
    by_cases h2 : nid ≤ b ∧ b < nid + (lenR R - m)
    · omega
    · rw [show ρ' b = ρ b from if_neg h2] at hb; exact hR.dom b p hb
  · rcases cases_ b hlv with ⟨k, hk, e, hrow, hρ⟩ | ⟨hb, hrow, hρ⟩
    · rw [hrow, ren_live] at hlv
      obtain ⟨p, hp, hr⟩ := hR'.rows k hlv
      refine ⟨p, by rw [hρ]; exact hp, ?_⟩
      rw [hrow]
      exact hr.ren fun c _ q hq => hback c q hq
    · rw [hrow] at hlv
      obtain ⟨p, hp, hr⟩ := hR.rows b hlv
      refine ⟨p, by rw [hρ]; exact hp, ?_⟩
      rw [hrow]
      exact (keepOld b p hb hlv hp).1
  · rcases cases_ b (rw_live hb) with ⟨k, hk, e, hrow, hρ⟩ | ⟨hbi, hrow, hρ⟩
    · rcases cases_ c hc with ⟨j, hj, e', hrow', hρ'⟩ | ⟨hci, hrow', hρ'⟩
      · rw [hrow, ren_rw] at hb
        rw [hrow, ren_cov] at hx
        rw [hrow', ren_live] at hc
        rw [hrow', ren_cov] at hx'
        rw [hρ] at hp
        rw [hρ'] at hq
        exact hR'.apart k j p q x (fun ekj => hne (by rw [← e, ← e', ekj])) hb hc hp hq hx hx'
      · rw [hrow, ren_rw] at hb
        rw [hrow, ren_cov] at hx
        rw [hrow'] at hc hx'
        rw [hρ] at hp
        rw [hρ'] at hq
        have hx'' := (keepOld c q hci hc hq).2 x hx'
        rcases hE.owned x ⟨k, p, hb, hp, hx⟩ with ho | ho
        · exact ownedc _ ho c q hci hc hq hx''
        · have := oldlt c q x hc hq hx''; omega
    · rcases cases_ c hc with ⟨j, hj, e', hrow', hρ'⟩ | ⟨hci, hrow', hρ'⟩
      · rw [hrow] at hb hx
        rw [hρ] at hp
        rw [hrow', ren_live] at hc
        rw [hrow', ren_cov] at hx'
        rw [hρ'] at hq
        have hx'' := (keepOld b p hbi (rw_live hb) hp).2 x hx
        have hpl := oldlt b p x (rw_live hb) hp hx''
        rcases hE.fresh j q x hc hq hx' with ⟨g1, g2, g5⟩ | g | g
        · obtain ⟨g3, g4⟩ := into_some g2
          rw [rowAt_rowsAt M _ 0 g3, ren_live] at g1
          rw [rowAt_rowsAt M _ 0 g3, ren_cov] at g5
          exact hR.apart b _ p q x (fun e => hbi (e ▸ back_mem 0 g3)) hb g1 hp g4 hx'' g5
        · omega
        · exact ownedc _ g b p hbi (rw_live hb) hp hx''
      · rw [hrow] at hb hx
        rw [hrow'] at hc hx'
        rw [hρ] at hp
        rw [hρ'] at hq
        exact hR.apart b c p q x hne hb hc hp hq ((keepOld b p hbi (rw_live hb) hp).2 x hx) ((keepOld c q hci hc hq).2 x hx')
  · rcases cases_ b (rw_live hb) with ⟨j, hj, e, hrow, hρ⟩ | ⟨hbi, hrow, hρ⟩
    · rw [hrow, ren_rw] at hb
      rw [hrow, ren_cov] at hk
      rw [hρ] at hp
      rcases hE.owned k ⟨j, p, hb, hp, hk⟩ with ho | ho
      · exact .inl (owned_into ho)
      · exact .inr ho
    · rw [hrow] at hb hk
      rw [hρ] at hp
      exact .inl ⟨b, p, hb, hp, (keepOld b p hbi (rw_live hb) hp).2 k hk⟩
  · rcases cases_ b hlv with ⟨j, hj, e, hrow, hρ⟩ | ⟨hbi, hrow, hρ⟩
    · rw [hrow, ren_live] at hlv
      rw [hrow, ren_cov] at hx
      rw [hρ] at hp
      rcases hE.fresh j p x hlv hp hx with ⟨g1, g2, g5⟩ | g | g
      · obtain ⟨g3, g4⟩ := into_some g2
        rw [rowAt_rowsAt M _ 0 g3, ren_live] at g1
        rw [rowAt_rowsAt M _ 0 g3, ren_cov] at g5
        have e0 : back ids 0 j = b := by
          have h1 := back_mem 0 g3
          have h2 := idx_back 0 hnd g3
          have h3 := back_idx nid h1
          rw [h2] at h3; rw [← h3]; exact e
        rw [e0] at g1 g4 g5
        exact .inl ⟨g1, g4, g5⟩
      · exact .inr (.inl g)
      · exact .inr (.inr (owned_into g))
    · rw [hrow] at hlv hx
      rw [hρ] at hp
      exact .inl ⟨hlv, hp, (keepOld b p hbi hlv hp).2 x hx⟩
  · show (if _ then _ else _) = _
    rw [if_neg]
    omega
theorem isPL_into {ids : List Nat} {l : List PV} {vs : List Value} (h : isPL ρ l vs) (hr : ∀ b ∈ idsPL l, b ∈ ids) : isPL (VM.into ρ ids) (renPL (fun b => idx b ids) l) vs :=
  isPL_ren (fun b hb p hp => by rw [into_idx (hr b hb)]; exact hp) h
/-- A call, whatever carries it out: T p says that it ends with a value and a world that are as p says. -/
theorem callG_run {d : Bool} {T : (Value → World → Prop) → Prop} (hT : ∀ p q, (∀ u w', p u w' → q u w') → T p → T q) {S : List PV → List Row → (V → List Row → Prop) → Prop} {vs : List PV} {us : List Value} {nn : Nat}
    (hS : ∀ xs Mc k, S xs Mc k → ∃ R : V → List Row → Prop, (∀ v M', R v M' → k v M') ∧ ∀ ρ', Rep ρ' Mc w → Low G ρ' Mc w → isPL ρ' xs us →
      T fun u w' => ∃ v M' ρ'', R v M' ∧ v.Is ρ'' u ∧ Rep ρ'' M' w' ∧ Ev ρ' Mc w ρ'' M' w' ∧ ∀ b, b < lenR Mc → ρ'' b = ρ' b)
    (hvs : isPL ρ vs us) (hR : Rep ρ M w) (hL : Low G ρ M w)
    (hres : ∀ i, nid ≤ i → i < nid + nn → ρ i = none ∧ rowAt M i = .dead) (hlt : nid + nn ≤ lenR M) (h : callG d S M nid vs nn K) :
    T fun u w' => ∃ e ρ', K e ∧ Rep ρ' (app M e nid) w' ∧ Ev ρ M w ρ' (app M e nid) w' ∧ ValIs ρ' e.val u ∧ ∀ i, (i < nid ∨ nid + nn ≤ i) → ρ' i = ρ i := by
  unfold callG at h
  rw [forceNL_eq] at h
  generalize reach M fuel (idsPL vs) [] = ids at h
  obtain ⟨hok, h⟩ := h
  rw [forcePL_eq, forceM_eq] at h
  simp only [Bool.and_eq_true] at hok
  obtain ⟨hroots, hcl, hnd⟩ := okIds_iff hok.1
  have hout := outB_iff hok.2
  obtain ⟨R, hK, hrun⟩ := hS _ _ _ h
  refine hT _ _ ?_ (hrun _ (hR.into hcl hnd) hL.into (isPL_into hvs hroots))
  rintro u w' ⟨v, M', ρc, hRv, hv, hR', hE, hsame⟩
  have h := hK v M' hRv
  obtain ⟨hsz, h⟩ := h
  rw [V.force_eq, forceM_eq] at h
  simp only [Bool.and_eq_true] at hsz
  have h1 := Nat.le_of_ble_eq_true hsz.1
  have h2 := Nat.le_of_ble_eq_true hsz.2
  rw [lenR_rowsAt] at hsame
  obtain ⟨ρ', g1, g2, g3, g4⟩ := back_from (nn := nn) hR hcl hnd hout hres hlt h1 h2 hR' hE hsame
  rcases wrW_ex h with h | ⟨hz, h⟩
  · exact ⟨_, ρ', h, g1, g2, hv.ren fun c _ q hq => g3 c q hq, g4⟩
  · rw [setRows_same hz] at g1 g2
    exact ⟨_, ρ', h, g1, g2, hv.ren fun c _ q hq => g3 c q hq, g4⟩
theorem callG_good {d : Bool} {S : List PV → List Row → (V → List Row → Prop) → Prop} {vs : List PV} {us : List Value} {nn : Nat}
    (hS : ∀ xs Mc k, S xs Mc k → ∃ R : V → List Row → Prop, (∀ v M', R v M' → k v M') ∧ ∀ ρ', Rep ρ' Mc w → Low G ρ' Mc w → isPL ρ' xs us →
      ∀ (next : Act → World → Prop) (Q : Exit → Act → World → Prop), (∀ u w', (∃ v M' ρ'', R v M' ∧ v.Is ρ'' u ∧ Rep ρ'' M' w' ∧ Ev ρ' Mc w ρ'' M' w' ∧ ∀ b, b < lenR Mc → ρ'' b = ρ' b) → next (a.put o.dst u) w') → Oper.wpX P o a w next Q)
    (hvs : isPL ρ vs us) (hR : Rep ρ M w) (hL : Low G ρ M w)
    (hres : ∀ i, nid ≤ i → i < nid + nn → ρ i = none ∧ rowAt M i = .dead) (hlt : nid + nn ≤ lenR M) (h : callG d S M nid vs nn K) : Good P o a ρ M w nid nn K := fun next Q hnext =>
  callG_run (T := fun p => ∀ (next : Act → World → Prop) (Q : Exit → Act → World → Prop), (∀ u w', p u w' → next (a.put o.dst u) w') → Oper.wpX P o a w next Q) (fun p q hpq hp next Q hn => hp next Q fun u w' h => hn u w' (hpq u w' h)) hS hvs hR hL hres hlt h next Q
    fun u w' ⟨e, ρ', h1, h2, h3, h4, h5⟩ => hnext e ρ' w' u h1 h2 h3 h4 h5
theorem call_stop {d : Bool} {f : FuncId} {xs : List PV} {Mc : List Row} {k : V → List Row → Prop} (h : CallW G P d f xs Mc k) : ∃ R : V → List Row → Prop, (∀ v M', R v M' → k v M') ∧ Can G P f xs Mc R := by
  rcases h.ex with ⟨v, M', h1, h2⟩ | ⟨_, R, h1, h2⟩
  · exact ⟨_, fun a b ⟨e1, e2⟩ => by subst e1; subst e2; exact h2, h1⟩
  · exact ⟨R, h2, h1⟩
theorem callW_good {d : Bool} {f : FuncId} {vs : List PV} {us : List Value} {nn : Nat} (hent : ∀ (w : World), Ent P f → (execOp a.eval o).run P w = .ok (.enter f us.toArray) w) (hvs : isPL ρ vs us) (hR : Rep ρ M w) (hL : Low G ρ M w)
    (hres : ∀ i, nid ≤ i → i < nid + nn → ρ i = none ∧ rowAt M i = .dead) (hlt : nid + nn ≤ lenR M) (h : callW G P d M nid f vs nn K) : Good P o a ρ M w nid nn K := by
  refine callG_good (fun xs Mc k hk => ?_) hvs hR hL hres hlt h
  obtain ⟨R, hK, hcan⟩ := call_stop hk
  refine ⟨R, hK, fun ρ' hR' hL' hp next Q hnext => ?_⟩
  unfold Oper.wpX
  rw [hent w hcan.ent, Oper.uponIn_enter]
  refine ⟨(fun h => by cases h), callsIn_wide.2 ((hcan.run ρ' w us hR' hL' hp).mono ?_)⟩
  rintro e w' ⟨u, v, M', ρc, rfl, h1, h2⟩
  exact hnext u w' ⟨v, M', ρc, h1, h2⟩
theorem enter_yield {c : Call} {x : Operand} {l : Nat} {L : Go.Loop} (ho : o.op = .call c) (hc : c.callee = .value x) (hx : a.eval x = .func (.yield l) #[] #[]) (hl : w.heap[l]? = some (.loop L)) (hs : (c.args.toList.map a.eval).length = L.params.size) :
    (execOp a.eval o).run P w = .ok (.round l L.fn ((L.params.zip (c.args.toList.map a.eval).toArray).foldl (fun tmps (t, a) => tmps.setIfInBounds t a) L.tmps) L.assign L.body) w := by
  have e : (c.args.map a.eval) = (c.args.toList.map a.eval).toArray := by
    apply Array.ext'; simp
  have hy := run_yield (P := P) (args := c.args.map a.eval) hl (by rw [e]; simpa using hs)
  unfold execOp; rw [ho]
  simp only [resolve, hc, Sem.run_bind, hx, Deferred.ofValue, Sem.run_pure, Result.andThen_ok, invoke, callFunc, List.append_toArray, List.nil_append, Array.empty_append, Array.append_empty]
  rw [← e]
  simpa using hy
theorem yield_good {c : Call} {x : Operand} {b : Nat} {vs : List PV} {nn : Nat} (ho : o.op = .call c) (hc : c.callee = .value x) (hx : (PV.o (.yl b)).Is ρ (a.eval x)) (hvs : isPL ρ vs (c.args.toList.map a.eval)) (hR : Rep ρ M w) (hL : Low G ρ M w)
    (hres : ∀ i, nid ≤ i → i < nid + nn → ρ i = none ∧ rowAt M i = .dead) (hlt : nid + nn ≤ lenR M) (h : callG false (fun xs Mc k => YldW G P xs Mc k) M nid (.o (.yl b) :: vs) nn K) : Good P o a ρ M w nid nn K := by
  refine callG_good (vs := .o (.yl b) :: vs) (us := a.eval x :: c.args.toList.map a.eval) (fun xs Mc k hk => ?_) ⟨_, _, rfl, hx, hvs⟩ hR hL hres hlt h
  obtain ⟨R, hcan, hK⟩ := hk.ex
  refine ⟨R, hK, fun ρ' hR' hL' hp next Q hnext => ?_⟩
  obtain ⟨l, us, L, h1, h2, h3, h4⟩ := hcan.run ρ' w _ hR' hL' hp
  obtain ⟨h5, rfl⟩ := List.cons.inj h1
  unfold Oper.wpX
  rw [enter_yield ho hc h5 h2 h3, Oper.uponIn_round]
  refine ⟨(fun h => by cases h), h4.mono ?_⟩
  rintro e w' ⟨u, v, M', ρc, rfl, h1, h2⟩
  exact hnext u w' ⟨v, M', ρc, h1, h2⟩
theorem yieldD_good {c : Call} {x : Operand} {b : Nat} {vs : List PV} {nn : Nat} (ho : o.op = .call c) (hc : c.callee = .value x) (hx : (PV.o (.yl b)).Is ρ (a.eval x)) (hvs : isPL ρ vs (c.args.toList.map a.eval)) (hR : Rep ρ M w) (hL : Low G ρ M w)
    (hres : ∀ i, nid ≤ i → i < nid + nn → ρ i = none ∧ rowAt M i = .dead) (hlt : nid + nn ≤ lenR M) (h : callG true (fun xs Mc k => YldD G P xs Mc k) M nid (.o (.yl b) :: vs) nn K) : Good P o a ρ M w nid nn K := by
  refine callG_good (vs := .o (.yl b) :: vs) (us := a.eval x :: c.args.toList.map a.eval) (fun xs Mc k hk => ?_) ⟨_, _, rfl, hx, hvs⟩ hR hL hres hlt h
  obtain ⟨v0, M0, hcan, hK0⟩ := hk.ex
  refine ⟨fun a b => a = v0 ∧ b = M0, (fun a b h => by obtain ⟨e1, e2⟩ := h; subst e1; subst e2; exact hK0), fun ρ' hR' hL' hp next Q hnext => ?_⟩
  obtain ⟨l, us, L, h1, h2, h3, h4⟩ := hcan.run ρ' w _ hR' hL' hp
  obtain ⟨h5, rfl⟩ := List.cons.inj h1
  unfold Oper.wpX
  rw [enter_yield ho hc h5 h2 h3, Oper.uponIn_round]
  refine ⟨(fun h => by cases h), h4.mono ?_⟩
  rintro e w' ⟨u, v, M', ρc, rfl, h1, h2⟩
  exact hnext u w' ⟨v, M', ρc, h1, h2⟩
theorem enter_func {c : Call} {f : FuncId} (ho : o.op = .call c) (hc : c.callee = .value (.func f)) (hE : Ent P f) (w : World) : (execOp a.eval o).run P w = .ok (.enter f ((c.args.toList.map a.eval).toArray)) w := by
  obtain ⟨fn, h1, h2, h3⟩ := hE
  have e : (c.args.map a.eval) = (c.args.toList.map a.eval).toArray := by
    apply Array.ext'; simp
  unfold execOp; rw [ho]
  simp only [resolve, hc, Sem.run_bind, Act.eval, Deferred.ofValue, Sem.run_pure, Result.andThen_ok, invoke, callFunc, run_program, h1, h2, h3, Bool.false_eq_true, if_false]
  simp [e]
theorem enter_value {c : Call} {f : FuncId} {x : Operand} {vs : Array Value} (ho : o.op = .call c) (hc : c.callee = .value x) (hx : a.eval x = .func (.func f) #[] vs) (hE : Ent P f) (w : World) :
    (execOp a.eval o).run P w = .ok (.enter f ((c.args.toList.map a.eval ++ vs.toList).toArray)) w := by
  obtain ⟨fn, h1, h2, h3⟩ := hE
  have e : (c.args.map a.eval) ++ vs = (c.args.toList.map a.eval ++ vs.toList).toArray := by
    apply Array.ext'; simp
  unfold execOp; rw [ho]
  simp only [resolve, hc, Sem.run_bind, hx, Deferred.ofValue, Sem.run_pure, Result.andThen_ok, invoke, callFunc, run_program, h1, h2, h3, Bool.false_eq_true, if_false]
  simp [e]
theorem isPL_caps : ∀ {cs : List (Nat × Nat)} {vs : List Value}, capsIs ρ cs vs → isPL ρ (capsV cs) vs
  | [], _, h => h
  | (b, o) :: l, _, ⟨p, r, h1, h2, h3⟩ => ⟨_, r, h2, ⟨p, h1, rfl⟩, isPL_caps h3⟩
theorem isPL_app : ∀ {l m : List PV} {vs us : List Value}, isPL ρ l vs → isPL ρ m us → isPL ρ (appP l m) (vs ++ us)
  | [], m, vs, us, h, h' => by simp only [isPL] at h; subst h; exact h'
  | s :: l, m, _, us, ⟨v, r, h1, h2, h3⟩, h' => by subst h1; exact ⟨v, r ++ us, rfl, h2, isPL_app h3 h'⟩
end Go.Proofs.Ytmdfkggflainbaa.VM
