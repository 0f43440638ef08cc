/- The evaluator: a region that draws its order: whatever order is drawn, it ends as in the order of the text. -/
import Derived.Test.YtmdfkggflainbaaVmO
namespace Go.Proofs.Ytmdfkggflainbaa.VM
open Go.RowKit
set_option linter.unusedVariables false
set_option linter.unusedSimpArgs false
variable {G : Ground} {P : Program} {ds : List Deferred} {eqs : List Nat} {news : FuncId → Nat} {ρ : PMap} {M : List Row} {w : World} {a : Act} {n base : Nat} {L L' : Env} {M' : List Row}
abbrev Item := VOper × Option Eff
def putE (L : Env) (d : Option Nat) (v : Option V) : Env := match d with
  | none => L
  | some d => fun t => if d = t then some (v.getD (.t [])) else L t
theorem look_putS (sl : Slots) (d : Option Nat) (v : Option V) : look (putS sl d v) = putE (look sl) d v := by
  cases d with
  | none => rfl
  | some d => cases v <;> (funext t; simp only [putS, look_cons, putE]; rfl)
def StepI (G : Ground) (P : Program) (base : Nat) (v : VOper) (x : Option Eff) (L : Env) (M : List Row) : Prop := match x with
  | some e => (v.guard = none ∨ ∃ g want, v.guard = some (g, want) ∧ L g = some (vB want)) ∧ opW G P true L M (base + v.off) v.op (fun e' => e' = e)
  | none => ∃ g want, v.guard = some (g, want) ∧ ((∃ b, L g = some (vB b) ∧ b ≠ want) ∨ L g = some (.t []))
def updL (v : VOper) (x : Option Eff) (L : Env) : Env := putE L v.dst (x.bind (·.val))
def wrOf (base : Nat) (v : VOper) : Option Eff → List (Nat × Row)
  | some e => e.wr ++ numbered (base + v.off) e.new
  | none => []
def updM (base : Nat) (v : VOper) (x : Option Eff) (M : List Row) : List Row := setRows M (wrOf base v x)
def footX (base : Nat) (v : VOper) : Option Eff → List Nat × List Nat
  | some e => footOf e (base + v.off)
  | none => ([], [])
def RunI (G : Ground) (P : Program) (base : Nat) : List Item → Env → List Row → Env → List Row → Prop
  | [], L, M, L', M' => L = L' ∧ M = M'
  | (v, x) :: r, L, M, L', M' => StepI G P base v x L M ∧ RunI G P base r (updL v x L) (updM base v x M) L' M'
theorem StepI.loc {v : VOper} {x : Option Eff} (h : StepI G P base v x L M) (hL : Agree L L' (readsV v)) (hM : ∀ b ∈ (footX base v x).1, rowAt M' b = rowAt M b) : StepI G P base v x L' M' := by
  cases x with
  | some e =>
    obtain ⟨h1, h2⟩ := h
    obtain ⟨e', rfl, h3⟩ := opW_loc h2
    cases hg : v.guard with
    | none =>
      have hL' : Agree L L' (readsOf v.op) := by simpa [readsV, hg] using hL
      exact ⟨.inl hg, h3 _ _ _ hL' hM rfl⟩
    | some gw =>
      obtain ⟨g, want⟩ := gw
      have hL' : Agree L L' (g :: readsOf v.op) := by simpa [readsV, hg] using hL
      refine ⟨.inr ⟨g, want, hg, ?_⟩, h3 _ _ _ (fun t ht => hL' t (by simp [ht])) hM rfl⟩
      rcases h1 with h1 | ⟨g', want', h4, h5⟩
      · rw [hg] at h1; cases h1
      · rw [hg] at h4; cases h4
        rw [hL' g (by simp)]; exact h5
  | none =>
    obtain ⟨g, want, h1, h2⟩ := h
    have hL' : Agree L L' (g :: readsOf v.op) := by simpa [readsV, h1] using hL
    exact ⟨g, want, h1, by rw [hL' g (by simp)]; exact h2⟩
def Indep (base : Nat) (a b : Item) : Prop := apartV a.1 b.1 = true ∧ indepB (footX base a.1 a.2) (footX base b.1 b.2) = true
theorem mem_false {b : Nat} {l : List Nat} (h : mem b l = false) : b ∉ l := fun hm => by rw [(mem_iff b l).2 hm] at h; cases h
theorem outOf_spec {d : Option Nat} {l : List Nat} (h : outOf d l = true) : ∀ k, d = some k → k ∉ l := fun k hk => by
  subst hk
  simp only [outOf, Bool.not_eq_true'] at h
  exact mem_false h
theorem noneIn_spec : ∀ {l m : List Nat}, indepB.noneIn l m = true → ∀ b ∈ l, b ∉ m
  | [], m, _, b, hb => by simp at hb
  | x :: l, m, h, b, hb => by
    simp only [indepB.noneIn, Bool.and_eq_true, Bool.not_eq_true'] at h
    rcases List.mem_cons.1 hb with rfl | hb
    · exact mem_false h.1
    · exact noneIn_spec h.2 b hb
theorem agree_upd {v : VOper} {x : Option Eff} {l : List Nat} (h : ∀ k, v.dst = some k → k ∉ l) : Agree L (updL v x L) l := fun t ht => by
  unfold updL
  cases hd : v.dst with
  | none => rfl
  | some d => exact if_neg (fun (e : d = t) => h d hd (e ▸ ht))
theorem agree_upd' {v : VOper} {x : Option Eff} {l : List Nat} (h : ∀ k, v.dst = some k → k ∉ l) : Agree (updL v x L) L l := fun t ht => (agree_upd (x := x) h t ht).symm
theorem foot_wr (v : VOper) (x : Option Eff) : (footX base v x).2 = idsOfWr (wrOf base v x) := by
  cases x <;> rfl
theorem rowAt_updM {v : VOper} {x : Option Eff} {b : Nat} (h : b ∉ (footX base v x).2) : rowAt (updM base v x M) b = rowAt M b := by
  rw [foot_wr] at h
  exact rowAt_setRows_other _ _ _ h
theorem setRow_comm : ∀ (M : List Row) {i j : Nat} (r s : Row), i ≠ j → setRow (setRow M i r) j s = setRow (setRow M j s) i r
  | [], _, _, _, _, _ => rfl
  | _ :: _, 0, 0, _, _, h => absurd rfl h
  | _ :: _, 0, j + 1, _, _, _ => rfl
  | _ :: _, i + 1, 0, _, _, _ => rfl
  | x :: M, i + 1, j + 1, r, s, h => by simp only [setRow]; rw [setRow_comm M r s (by omega)]
theorem setRows_setRow : ∀ (l : List (Nat × Row)) (M : List Row) (i : Nat) (r : Row), i ∉ idsOfWr l → setRows (setRow M i r) l = setRow (setRows M l) i r
  | [], _, _, _, _ => rfl
  | (j, s) :: l, M, i, r, h => by
    simp only [idsOfWr, List.mem_cons, not_or] at h
    show setRows (setRow (setRow M i r) j s) l = setRow (setRows (setRow M j s) l) i r
    rw [setRow_comm M r s h.1, setRows_setRow l _ i r h.2]
theorem setRows_comm : ∀ (l m : List (Nat × Row)) (M : List Row), (∀ b ∈ idsOfWr l, b ∉ idsOfWr m) → setRows (setRows M l) m = setRows (setRows M m) l
  | [], _, _, _ => rfl
  | (i, r) :: l, m, M, h => by
    show setRows (setRows (setRow M i r) l) m = setRows (setRow (setRows M m) i r) l
    rw [setRows_comm l m _ (fun b hb => h b (by simp [idsOfWr, hb])), setRows_setRow m M i r (h i (by simp [idsOfWr]))]
theorem putE_comm {d d' : Option Nat} {v v' : Option V} (h : ∀ k, d = some k → d' ≠ some k) : putE (putE L d v) d' v' = putE (putE L d' v') d v := by
  cases d with
  | none => rfl
  | some d =>
    cases d' with
    | none => rfl
    | some d' =>
      have hne : d ≠ d' := fun e => h d rfl (by rw [e])
      funext t
      simp only [putE]
      by_cases h1 : d' = t
      · rw [if_pos h1, if_neg (fun e => hne (e.trans h1.symm)), if_pos h1]
      · rw [if_neg h1]
        by_cases h2 : d = t
        · rw [if_pos h2, if_pos h2]
        · rw [if_neg h2, if_neg h2, if_neg h1]
/-- Two of which neither need come first change places. -/
theorem swap {a b : Item} (hi : Indep base a b) (h1 : StepI G P base a.1 a.2 L M) (h2 : StepI G P base b.1 b.2 (updL a.1 a.2 L) (updM base a.1 a.2 M)) :
    StepI G P base b.1 b.2 L M ∧ StepI G P base a.1 a.2 (updL b.1 b.2 L) (updM base b.1 b.2 M) ∧
    updL a.1 a.2 (updL b.1 b.2 L) = updL b.1 b.2 (updL a.1 a.2 L) ∧ updM base a.1 a.2 (updM base b.1 b.2 M) = updM base b.1 b.2 (updM base a.1 a.2 M) := by
  obtain ⟨hs, hd⟩ := hi
  simp only [apartV, Bool.and_eq_true] at hs
  simp only [indepB, Bool.and_eq_true] at hd
  have s1 := outOf_spec hs.1
  have s2 := outOf_spec hs.2.1
  have s3 := outOf_spec hs.2.2
  have d1 := noneIn_spec hd.1
  have d2 := noneIn_spec hd.2.1
  have d3 := noneIn_spec hd.2.2
  refine ⟨h2.loc (agree_upd' s1) (fun c hc => (rowAt_updM (fun hm => d1 c hm hc)).symm), h1.loc (agree_upd s2) (fun c hc => rowAt_updM (fun hm => d2 c hm hc)), ?_, ?_⟩
  · refine putE_comm fun k hk hk' => s3 k hk' (by rw [hk]; simp)
  · refine setRows_comm _ _ _ (fun c hc hc' => d3 c (by rw [foot_wr]; exact hc') (by rw [foot_wr]; exact hc))
theorem bubble {it : Item} {post : List Item} : ∀ (pre : List Item) (L : Env) (M : List Row), RunI G P base (pre ++ it :: post) L M L' M' → (∀ p ∈ pre, Indep base p it) → RunI G P base (it :: (pre ++ post)) L M L' M'
  | [], _, _, h, _ => h
  | p :: pre, L, M, h, hp => by
    obtain ⟨h1, h2⟩ : StepI G P base p.1 p.2 L M ∧ RunI G P base (pre ++ it :: post) (updL p.1 p.2 L) (updM base p.1 p.2 M) L' M' := h
    obtain ⟨h3, h4⟩ := bubble pre _ _ h2 (fun q hq => hp q (by simp [hq]))
    obtain ⟨g1, g2, g3, g4⟩ := swap (hp p (by simp)) h1 h3
    exact ⟨g1, g2, by rw [g3, g4]; exact h4⟩
/-- What the evaluator has said of a region, as a run. -/
theorem run_of_opsW {K : Slots → List Row → List (List Nat × List Nat) → Prop} : ∀ (vos : List VOper) (sl : Slots) (M : List Row) (ft : List (List Nat × List Nat)), opsW G P true base vos sl M ft K →
    ∃ (its : List Item) (sl' : Slots) (M' : List Row), its.map (·.1) = vos ∧ RunI G P base its (look sl) M (look sl') M' ∧ K sl' M' (ft ++ its.map fun x => footX base x.1 x.2)
  | [], sl, M, ft, h => ⟨[], sl, M, rfl, ⟨rfl, rfl⟩, by simp only [opsW] at h; simpa using h⟩
  | v :: r, sl, M, ft, h => by
    have snoc_eq : ∀ (l : List (List Nat × List Nat)) (x : List Nat × List Nat), snoc l x = l ++ [x] := fun l x => by
      induction l with
      | nil => rfl
      | cons y l ih => simp only [snoc, ih, List.cons_append]
    have go : ∀ (sl' : Slots), look sl' = look sl → (v.guard = none ∨ ∃ g want, v.guard = some (g, want) ∧ look sl g = some (vB want)) →
        (forceN (base + v.off) fun nid => opW G P true (look sl') M nid v.op fun e => stepW true v.dst sl' M ft nid e fun sl M ft => opsW G P true base r sl M ft K) →
        ∃ (its : List Item) (sl' : Slots) (M' : List Row), its.map (·.1) = v :: r ∧ RunI G P base its (look sl) M (look sl') M' ∧ K sl' M' (ft ++ its.map fun x => footX base x.1 x.2) := fun sl1 hsl hg h => by
      rw [forceN_eq, hsl] at h
      obtain ⟨e, hK, hloc⟩ := opW_loc h
      rw [stepW_eq] at hK
      obtain ⟨its, sl', M', h1, h2, h3⟩ := run_of_opsW r _ _ _ hK
      refine ⟨(v, some e) :: its, sl', M', by simp [h1], ⟨⟨hg, hloc _ _ _ (fun _ _ => rfl) (fun _ _ => rfl) rfl⟩, ?_⟩, ?_⟩
      · rw [look_putS, hsl] at h2; exact h2
      · simpa [snoc_eq, footX] using h3
    have skip : ∀ (sl' : Slots), look sl' = look sl → (∃ g want, v.guard = some (g, want) ∧ ((∃ b, look sl g = some (vB b) ∧ b ≠ want) ∨ look sl g = some (.t []))) →
        (stepW true v.dst sl' M ft 0 ⟨none, [], [], []⟩ fun sl M ft => opsW G P true base r sl M ft K) →
        ∃ (its : List Item) (sl' : Slots) (M' : List Row), its.map (·.1) = v :: r ∧ RunI G P base its (look sl) M (look sl') M' ∧ K sl' M' (ft ++ its.map fun x => footX base x.1 x.2) := fun sl1 hsl hg hK => by
      rw [stepW_eq] at hK
      obtain ⟨its, sl', M', h1, h2, h3⟩ := run_of_opsW r _ _ _ hK
      refine ⟨(v, none) :: its, sl', M', by simp [h1], ⟨hg, ?_⟩, ?_⟩
      · rw [look_putS, hsl] at h2; exact h2
      · simpa [snoc_eq, footX, footOf, idsOfWr, numbered] using h3
    have known : ∀ {g : Nat} {b : Bool}, look sl g = some (vB b) → look ((g, vB b) :: sl) = look sl := fun {g b} hg => by
      funext t
      rw [look_cons]
      split
      · rename_i e; rw [← e, hg]
      · rfl
    simp only [opsW] at h
    split at h
    · rename_i hg
      exact go sl rfl (.inl hg) h
    · rename_i g want hg
      split at h
      · rename_i b hb
        cases b with
        | true =>
          have h := h.yes rfl
          cases want with
          | true => exact go _ (known hb) (.inr ⟨g, true, hg, hb⟩) h
          | false => exact skip _ (known hb) ⟨g, false, hg, .inl ⟨true, hb, by simp⟩⟩ h
        | false =>
          have h := h.no rfl
          cases want with
          | true => exact skip _ (known hb) ⟨g, true, hg, .inl ⟨false, hb, by simp⟩⟩ h
          | false => exact go _ (known hb) (.inr ⟨g, false, hg, hb⟩) h
      · rename_i hb
        exact skip sl rfl ⟨g, want, hg, .inr hb⟩ h
      · exact h.elim
/-! which come ahead of which -/
theorem getM_snoc : ∀ (l : List Nat) (x i : Nat), getM (snoc l x) i = if i = l.length then x else getM l i
  | [], x, 0 => rfl
  | [], x, i + 1 => rfl
  | y :: l, x, 0 => by simp [snoc, getM]
  | y :: l, x, i + 1 => by
    simp only [snoc, getM, List.length_cons]
    rw [getM_snoc l x i]
    by_cases h : i = l.length
    · rw [if_pos h, if_pos (by omega)]
    · rw [if_neg h, if_neg (by omega)]
theorem snoc_length {α : Type} : ∀ (l : List α) (x : α), (snoc l x).length = l.length + 1
  | [], _ => rfl
  | y :: l, x => by simp [snoc, snoc_length l x]
theorem masksGo_spec : ∀ (os : List Oper) (acc : List Nat), (∀ i, i < acc.length → getM (masksGo os acc) i = getM acc i) ∧ (masksGo os acc).length = acc.length + os.length ∧
    ∀ k o, os[k]? = some o → ∃ acc', (∀ i, i < acc.length + k → getM acc' i = getM (masksGo os acc) i) ∧ acc'.length = acc.length + k ∧ getM (masksGo os acc) (acc.length + k) = maskOf acc' o.after.toList
  | [], acc => ⟨fun _ _ => rfl, by simp [masksGo], fun k o h => by simp at h⟩
  | o :: os, acc => by
    have e : masksGo (o :: os) acc = masksGo os (snoc acc (maskOf acc o.after.toList)) := by
      simp only [masksGo]
      split
      · rename_i h; rw [h]
      · rename_i m h; rw [h]
    rw [e]
    obtain ⟨h1, h2, h3⟩ := masksGo_spec os (snoc acc (maskOf acc o.after.toList))
    rw [snoc_length] at h1 h2 h3
    refine ⟨fun i hi => ?_, by rw [h2, List.length_cons]; omega, fun k o' hk => ?_⟩
    · rw [h1 i (by omega), getM_snoc, if_neg (by omega)]
    · cases k with
      | zero =>
        simp only [List.getElem?_cons_zero, Option.some.injEq] at hk
        subst hk
        refine ⟨acc, fun i hi => ?_, rfl, ?_⟩
        · rw [h1 i (by omega), getM_snoc, if_neg (by omega)]
        · rw [h1 _ (by omega), getM_snoc, if_pos (by omega)]
      | succ k =>
        obtain ⟨acc', g1, g2, g3⟩ := h3 k o' (by simpa using hk)
        exact ⟨acc', fun i hi => g1 i (by omega), by omega, by rw [show acc.length + (k + 1) = acc.length + 1 + k by omega]; exact g3⟩
theorem testBit_maskOf : ∀ (l : List Edge) (acc : List Nat) (p : Nat), Nat.testBit (maskOf acc l) p = true → ∃ e ∈ l, Region.binds .any e = true ∧ (p = e.on ∨ Nat.testBit (getM acc e.on) p = true)
  | [], acc, p, h => by simp [maskOf] at h
  | e :: l, acc, p, h => by
    simp only [maskOf] at h
    split at h
    · rename_i hb
      simp only [Nat.testBit_or, Bool.or_eq_true] at h
      rcases h with (h | h) | h
      · rw [Nat.one_shiftLeft, Nat.testBit_two_pow] at h
        exact ⟨e, by simp, hb, .inl (by simpa using (of_decide_eq_true h).symm)⟩
      · exact ⟨e, by simp, hb, .inr h⟩
      · obtain ⟨e', h1, h2⟩ := testBit_maskOf l acc p h
        exact ⟨e', by simp [h1], h2⟩
    · obtain ⟨e', h1, h2⟩ := testBit_maskOf l acc p h
      exact ⟨e', by simp [h1], h2⟩
theorem mem_rowPairs (m j : Nat) : ∀ (f i p : Nat), i ≤ p → p < i + f → Nat.testBit m p = false → (p, j) ∈ rowPairs m j f i
  | 0, i, p, h1, h2, _ => by omega
  | f + 1, i, p, h1, h2, h3 => by
    simp only [rowPairs]
    split
    · rename_i h
      refine mem_rowPairs m j f (i + 1) p ?_ (by omega) h3
      rcases Nat.lt_or_ge i p with h' | h'
      · omega
      · have : i = p := by omega
        subst this; rw [h] at h3; cases h3
    · rcases Nat.lt_or_ge i p with h' | h'
      · exact List.mem_cons.2 (.inr (mem_rowPairs m j f (i + 1) p (by omega) (by omega) h3))
      · have : i = p := by omega
        subst this; simp
theorem mem_pairsGo : ∀ (ms : List Nat) (s k p : Nat), k < ms.length → p < s + k → Nat.testBit (getM ms k) p = false → (p, s + k) ∈ pairsGo ms s
  | [], s, k, p, h, _, _ => by simp at h
  | m :: ms, s, 0, p, _, h2, h3 => by
    simp only [pairsGo, List.mem_append]
    exact .inl (mem_rowPairs m s s 0 p (by omega) (by omega) h3)
  | m :: ms, s, k + 1, p, h1, h2, h3 => by
    simp only [pairsGo, List.mem_append]
    right
    have := mem_pairsGo ms (s + 1) k p (by simpa using h1) (by omega) h3
    rwa [show s + 1 + k = s + (k + 1) by omega] at this
theorem backB_spec : ∀ (os : List Oper) (s k : Nat) (o : Oper), backB os s = true → os[k]? = some o → ∀ e ∈ o.after, Region.binds .any e = true → e.on < s + k
  | [], s, k, o, _, h, _, _, _ => by simp at h
  | x :: os, s, 0, o, hb, h, e, he, hbi => by
    simp only [List.getElem?_cons_zero, Option.some.injEq] at h
    subst h
    simp only [backB, Bool.and_eq_true, List.all_eq_true] at hb
    have := hb.1 e (by simpa using he)
    simp only [hbi, Bool.not_true, Bool.false_or] at this
    exact Nat.le_of_ble_eq_true this
  | x :: os, s, k + 1, o, hb, h, e, he, hbi => by
    simp only [backB, Bool.and_eq_true] at hb
    have := backB_spec os (s + 1) k o hb.2 (by simpa using h) e he hbi
    omega
theorem getV_eq : ∀ (l : List VOper) (i : Nat), getV l i = l[i]?
  | [], _ => rfl
  | x :: l, 0 => rfl
  | x :: l, i + 1 => by simp only [getV, List.getElem?_cons_succ]; exact getV_eq l i
theorem apartAll_spec {vs : List VOper} : ∀ {ps : List (Nat × Nat)}, apartAll vs ps = true → ∀ i j, (i, j) ∈ ps → ∃ x y, vs[i]? = some x ∧ vs[j]? = some y ∧ apartV x y = true
  | [], _, i, j, h => by simp at h
  | (p, q) :: ps, h, i, j, hm => by
    simp only [apartAll] at h
    split at h
    · rename_i x y hx hy
      simp only [Bool.and_eq_true] at h
      rcases List.mem_cons.1 hm with e | e
      · cases e; exact ⟨x, y, by rw [← getV_eq]; exact hx, by rw [← getV_eq]; exact hy, h.1⟩
      · exact apartAll_spec h.2 i j e
    · cases h
theorem getF_eq : ∀ (l : List (List Nat × List Nat)) (i : Nat) (x : List Nat × List Nat), l[i]? = some x → getF l i = x
  | [], i, x, h => by simp at h
  | y :: l, 0, x, h => by simpa [getF] using h
  | y :: l, i + 1, x, h => by simp only [getF]; exact getF_eq l i x (by simpa using h)
theorem okPairs_spec {ft : List (List Nat × List Nat)} : ∀ {ps : List (Nat × Nat)}, okPairs ft ps = true → ∀ i j, (i, j) ∈ ps → indepB (getF ft i) (getF ft j) = true
  | [], _, i, j, h => by simp at h
  | (p, q) :: ps, h, i, j, hm => by
    simp only [okPairs, Bool.and_eq_true] at h
    rcases List.mem_cons.1 hm with e | e
    · cases e; exact h.1
    · exact okPairs_spec h.2 i j e
/-- The places that are set aside for the operations lie apart. -/
theorem cOps_get {all : Array Oper} : ∀ (os : List Oper) (off : Nat) (vos : List VOper) (tot : Nat), cOps P eqs news n all os off = some (vos, tot) →
    vos.length = os.length ∧ off ≤ tot ∧ (∀ (k : Nat) (o : Oper), os[k]? = some o → ∃ v, vos[k]? = some v ∧ oneOp P eqs news n all o v.off v ∧ off ≤ v.off ∧ v.off + newsOf v.op ≤ tot) ∧
    ∀ (j k : Nat) (v u : VOper), j < k → vos[j]? = some v → vos[k]? = some u → v.off + newsOf v.op ≤ u.off
  | [], off, vos, tot, h => by
    simp only [cOps, Option.some.injEq, Prod.mk.injEq] at h
    obtain ⟨rfl, rfl⟩ := h
    exact ⟨rfl, Nat.le_refl _, fun k o h => by simp at h, fun j k v u _ h => by simp at h⟩
  | o :: os, off, vos, tot, h => by
    obtain ⟨v, r, rfl, hone, h'⟩ := cOps_cons h
    obtain ⟨g1, g2, g3, g4⟩ := cOps_get os _ r tot h'
    have hoff : v.off = off := hone.2.2.1
    refine ⟨by simp [g1], by omega, fun k o' hk => ?_, fun j k x u hjk hx hu => ?_⟩
    · cases k with
      | zero =>
        simp only [List.getElem?_cons_zero, Option.some.injEq] at hk
        subst hk
        exact ⟨v, rfl, by rw [hoff]; exact hone, by omega, by omega⟩
      | succ k =>
        obtain ⟨v', q1, q2, q3, q4⟩ := g3 k o' (by simpa using hk)
        exact ⟨v', by simpa using q1, q2, by omega, q4⟩
    · cases k with
      | zero => omega
      | succ k =>
        have hu' : r[k]? = some u := by simpa using hu
        cases j with
        | zero =>
          simp only [List.getElem?_cons_zero, Option.some.injEq] at hx
          subst hx
          have : k < os.length := by rw [← g1]; exact (List.getElem?_eq_some_iff.1 hu').1
          obtain ⟨v', q1, q2, q3, q4⟩ := g3 k os[k] (by simp [this])
          rw [hu'] at q1; cases q1
          omega
        | succ j => exact g4 j k x u (by omega) (by simpa using hx) hu'
/-! the region -/
def pick (its : List Item) (rem : List Nat) : List Item := rem.filterMap (its[·]?)
theorem pick_range (its : List Item) : ∀ (k : Nat), k ≤ its.length → pick its (List.range' (its.length - k) k) = its.drop (its.length - k)
  | 0, _ => by simp [pick]
  | k + 1, h => by
    have hlt : its.length - (k + 1) < its.length := by omega
    rw [List.range'_succ, pick, List.filterMap_cons, List.getElem?_eq_getElem hlt]
    simp only
    have := pick_range its k (by omega)
    rw [show its.length - (k + 1) + 1 = its.length - k by omega]
    rw [show List.filterMap (fun x => its[x]?) (List.range' (its.length - k) k) = pick its (List.range' (its.length - k) k) from rfl, this]
    rw [List.drop_eq_getElem_cons hlt, show its.length - (k + 1) + 1 = its.length - k by omega]
theorem pick_all (its : List Item) : pick its (List.range its.length) = its := by
  have := pick_range its its.length (Nat.le_refl _)
  rw [Nat.sub_self, List.drop_zero] at this
  rw [List.range_eq_range']; exact this
theorem pick_append (its : List Item) (a b : List Nat) : pick its (a ++ b) = pick its a ++ pick its b := by simp [pick]
theorem mem_pick {its : List Item} {l : List Nat} {x : Item} (h : x ∈ pick its l) : ∃ i ∈ l, its[i]? = some x := by
  simpa [pick, List.mem_filterMap] using h
variable {ρ0 : PMap} {M0 : List Row} {w0 : World}
theorem region_any (hk : Known P eqs) {r : Option Nat} {all : Array Oper} {vos : List VOper} {tot : Nat} {its : List Item} {Q : Exit → Act → World → Prop} (hbase : lenR M0 ≤ base)
    (hc : cOps P eqs news n all all.toList 0 = some (vos, tot)) (hits : its.map (·.1) = vos)
    (hback : backB all.toList 0 = true) (hap : apartAll vos (pairsOf all) = true) (hok : okPairs (its.map fun x => footX base x.1 x.2) (pairsOf all) = true)
    (hQ : ∀ ρ a w, Hist G ρ0 M0 w0 ds ρ M' w → SlotsOk ρ n ds L' a → Q .normal a w) :
    ∀ (fuel : Nat) (rem : List Nat) (listed : Array Bool) (L : Env) (M : List Row) (ρ : PMap) (a : Act) (w : World), rem.length = fuel → rem.Nodup → listed.size = all.size → rem.Pairwise (· < ·) →
      (∀ i, i ∈ rem ↔ i < all.size ∧ listed.getD i true = false) → (∀ i p, i < all.size → listed.getD i true = true → Nat.testBit (getM (masksGo all.toList []) i) p = true → listed.getD p false = true) →
      RunI G P base (pick its rem) L M L' M' → Hist G ρ0 M0 w0 ds ρ M w → SlotsOk ρ n ds L a → base + tot ≤ lenR M →
      (∀ i v, i ∈ rem → vos[i]? = some v → ∀ k, base + v.off ≤ k → k < base + v.off + newsOf v.op → ρ k = none) → wpAnyIn (fz r) 0 P .any all Q fuel listed a w := by
  obtain ⟨c1, c2, c3, c4⟩ := cOps_get _ _ _ _ hc
  obtain ⟨m1, m2, m3⟩ := masksGo_spec all.toList []
  have hlen : its.length = all.size := by
    have := congrArg List.length hits
    rw [List.length_map, c1] at this; simpa using this
  have edges : ∀ i o, all[i]? = some o → ∀ p, Nat.testBit (getM (masksGo all.toList []) i) p = true → ∃ e ∈ o.after, Region.binds .any e = true ∧ (p = e.on ∨ Nat.testBit (getM (masksGo all.toList []) e.on) p = true) := fun i o ho p hp => by
    obtain ⟨acc', g1, g2, g3⟩ := m3 i o (by simpa using ho)
    simp only [List.length_nil, Nat.zero_add] at g1 g2 g3
    rw [g3] at hp
    obtain ⟨e, h1, h2, h3⟩ := testBit_maskOf _ _ _ hp
    have hlt := backB_spec all.toList 0 i o hback (by simpa using ho) e (by simpa using h1) h2
    refine ⟨e, by simpa using h1, h2, h3.imp id fun h => ?_⟩
    rw [← g1 e.on (by omega)]; exact h
  intro fuel
  induction fuel with
  | zero =>
    intro rem listed L M ρ a w hrl _ hls _ hmem _ hrun hH hS _ _
    have hnil : rem = [] := List.eq_nil_of_length_eq_zero hrl
    subst hnil
    obtain ⟨rfl, rfl⟩ := hrun
    refine ⟨?_, hQ ρ a w hH hS⟩
    apply List.eq_nil_iff_forall_not_mem.2
    intro i hi
    obtain ⟨h1, o, h2, _⟩ := mem_ready.1 hi
    have : i < all.size := (Array.getElem?_eq_some_iff.1 h2).1
    exact absurd ((hmem i).2 ⟨this, h1⟩) (by simp)
  | succ fuel ih =>
    intro rem listed L M ρ a w hrl hnd hls hpw hmem hdc hrun hH hS hl hres
    have ready_mem : ∀ i ∈ Region.ready .any all listed, i ∈ rem := fun i hi => by
      obtain ⟨h1, o, h2, _⟩ := mem_ready.1 hi
      exact (hmem i).2 ⟨(Array.getElem?_eq_some_iff.1 h2).1, h1⟩
    constructor
    · intro hnone
      exfalso
      cases rem with
      | nil => simp at hrl
      | cons i rest =>
        have hi := (hmem i).1 (by simp)
        have hrd : i ∈ Region.ready .any all listed := by
          refine mem_ready.2 ⟨hi.2, all[i], by simp [hi.1], fun e he hb => ?_⟩
          have hlt := backB_spec all.toList 0 i all[i] hback (by simp [hi.1]) e he hb
          cases hq : listed.getD e.on true with
          | false =>
            have := (hmem e.on).2 ⟨by omega, hq⟩
            rcases List.mem_cons.1 this with h | h
            · omega
            · have := (List.pairwise_cons.1 hpw).1 e.on h; omega
          | true =>
            have : e.on < listed.size := by omega
            rw [Array.getD_eq_getD_getElem?, Array.getElem?_eq_getElem this] at hq ⊢
            exact hq
        rw [hnone] at hrd; cases hrd
    · intro i hi
      have hir := ready_mem i hi
      obtain ⟨h1, o, ho, hdeps⟩ := mem_ready.1 hi
      have hia : i < all.size := (Array.getElem?_eq_some_iff.1 ho).1
      obtain ⟨v, hv, hone, hoff1, hoff2⟩ := c3 i o (by simpa using ho)
      obtain ⟨it, hit, hit1⟩ : ∃ it, its[i]? = some it ∧ it.1 = v := by
        rw [← hits, List.getElem?_map] at hv
        simpa [Option.map_eq_some_iff] using hv
      obtain ⟨pre, post, hsplit⟩ := List.append_of_mem hir
      have hpost : ∀ p ∈ pre, p < i := fun p hp => by
        rw [hsplit] at hpw
        exact (List.pairwise_append.1 hpw).2.2 p hp i (by simp)
      rw [hsplit, pick_append] at hrun
      have hcons : pick its (i :: post) = it :: pick its post := by simp [pick, hit]
      rw [hcons] at hrun
      have hbub := bubble (pick its pre) L M hrun (fun q hq => by
        obtain ⟨p, hp, hpq⟩ := mem_pick hq
        have hplt := hpost p hp
        have hpm : p ∈ rem := by rw [hsplit]; simp [hp]
        have hpn := ((hmem p).1 hpm).2
        have hbit : Nat.testBit (getM (masksGo all.toList []) i) p = false := by
          cases hb : Nat.testBit (getM (masksGo all.toList []) i) p with
          | false => rfl
          | true =>
            obtain ⟨e, he, hbi, hor⟩ := edges i o ho p hb
            have hle := hdeps e he hbi
            have heon : e.on < all.size := by
              have := backB_spec all.toList 0 i o hback (by simpa using ho) e (by simpa using he) hbi
              omega
            have hlp : listed.getD p false = true := by
              rcases hor with rfl | hor
              · exact hle
              · refine hdc e.on p heon ?_ hor
                have : e.on < listed.size := by omega
                rw [Array.getD_eq_getD_getElem?, Array.getElem?_eq_getElem this] at hle ⊢
                exact hle
            have : p < listed.size := by omega
            rw [Array.getD_eq_getD_getElem?, Array.getElem?_eq_getElem this] at hlp hpn
            simp only [Option.getD_some] at hlp hpn
            rw [hlp] at hpn; cases hpn
        have hmp : (p, i) ∈ pairsOf all := by
          have := mem_pairsGo (masksGo all.toList []) 0 i p (by rw [m2]; simpa using hia) (by omega) hbit
          simpa [pairsOf] using this
        refine ⟨?_, ?_⟩
        · obtain ⟨x, y, hx, hy, hxy⟩ := apartAll_spec hap p i hmp
          rw [hv] at hy; cases hy
          rw [← hits, List.getElem?_map, hpq] at hx
          simp only [Option.map_some, Option.some.injEq] at hx
          rw [hit1, hx]; exact hxy
        · have := okPairs_spec hok p i hmp
          rw [getF_eq _ p _ (by rw [List.getElem?_map, hpq]; rfl), getF_eq _ i _ (by rw [List.getElem?_map, hit]; rfl)] at this
          exact this)
      obtain ⟨hstep, hrest⟩ := hbub
      rw [← pick_append] at hrest
      rw [hit1] at hstep hrest
      obtain ⟨q1, q2, q3, q4, q5⟩ := hone
      -- the rest, behind it
      have rest : ∀ (x : Option Eff) (ρ' : PMap) (w' : World) (u : Value), it.2 = x → Hist G ρ0 M0 w0 ds ρ' (updM base v x M) w' → SlotsOk ρ' n ds (updL v x L) (a.put o.dst u) → (∀ k, (k < base + v.off ∨ base + v.off + newsOf v.op ≤ k) → ρ' k = ρ k) →
          wpAnyIn (fz r) 0 P .any all Q fuel (listed.setIfInBounds i true) (a.put o.dst u) w' := fun x ρ' w' u hx hH' hS' hf => by
        subst hx
        have hnd' := hnd
        rw [hsplit] at hnd'
        have hipre : i ∉ pre := fun h => by have := (List.nodup_append.1 hnd').2.2 i h i (by simp); exact this rfl
        have hipost : i ∉ post := (List.nodup_cons.1 (List.nodup_append.1 hnd').2.1).1
        have hmem' : ∀ j, j ∈ pre ++ post ↔ j ∈ rem ∧ j ≠ i := fun j => by
          rw [hsplit]
          simp only [List.mem_append, List.mem_cons]
          constructor
          · rintro (h | h)
            · exact ⟨.inl h, fun e => hipre (e ▸ h)⟩
            · exact ⟨.inr (.inr h), fun e => hipost (e ▸ h)⟩
          · rintro ⟨h | h | h, hne⟩
            · exact .inl h
            · exact absurd h hne
            · exact .inr h
        have getD_set : ∀ (j : Nat) (d : Bool), j ≠ i → (listed.setIfInBounds i true).getD j d = listed.getD j d := fun j d hj => by
          rw [Array.getD_eq_getD_getElem?, Array.getD_eq_getD_getElem?, Array.getElem?_setIfInBounds_ne (Ne.symm hj)]
        have getD_same : ∀ (d : Bool), (listed.setIfInBounds i true).getD i d = true := fun d => by
          rw [Array.getD_eq_getD_getElem?, Array.getElem?_setIfInBounds_self_of_lt (by omega)]; rfl
        refine ih (pre ++ post) _ _ _ ρ' _ w' ?_ ?_ (by simp [hls]) ?_ (fun j => ?_) (fun j p hj hlj hb => ?_) hrest hH' hS' (by show _ ≤ lenR (setRows _ _); rw [lenR_setRows]; exact hl) (fun j u' hj hu' k hk1 hk2 => ?_)
        · have := congrArg List.length hsplit
          simp only [List.length_append, List.length_cons] at this ⊢
          omega
        · have h1 := List.nodup_append.1 hnd'
          refine List.nodup_append.2 ⟨h1.1, (List.nodup_cons.1 h1.2.1).2, fun x hx y hy => h1.2.2 x hx y (by simp [hy])⟩
        · rw [hsplit] at hpw
          have h1 := List.pairwise_append.1 hpw
          exact List.pairwise_append.2 ⟨h1.1, (List.pairwise_cons.1 h1.2.1).2, fun x hx y hy => h1.2.2 x hx y (by simp [hy])⟩
        · rw [hmem' j, hmem j]
          by_cases e : j = i
          · subst e
            rw [getD_same]
            simp
          · rw [getD_set j true e]
            simp [e]
        · by_cases e : j = i
          · subst e
            obtain ⟨e', he, hbi, hor⟩ := edges j o ho p hb
            have hle := hdeps e' he hbi
            have hlt := backB_spec all.toList 0 j o hback (by simpa using ho) e' (by simpa using he) hbi
            have hlp : listed.getD p false = true := by
              rcases hor with rfl | hor
              · exact hle
              · refine hdc e'.on p (by omega) ?_ hor
                have : e'.on < listed.size := by omega
                rw [Array.getD_eq_getD_getElem?, Array.getElem?_eq_getElem this] at hle ⊢
                exact hle
            by_cases e2 : p = j
            · subst e2; exact getD_same false
            · rw [getD_set p false e2]; exact hlp
          · rw [getD_set j true e] at hlj
            have := hdc j p hj hlj hb
            by_cases e2 : p = i
            · subst e2; exact getD_same false
            · rw [getD_set p false e2]; exact this
        · have hjr := (hmem' j).1 hj
          have hold := hres j u' hjr.1 hu' k hk1 hk2
          rw [hf k ?_, hold]
          rcases Nat.lt_trichotomy i j with h | h | h
          · have := c4 i j v u' h hv hu'; omega
          · exact absurd h.symm hjr.2
          · have := c4 j i u' v h hu' hv; omega
      unfold wpOpIn
      simp only [ho]
      have hresi : Res ρ M (base + v.off) (newsOf v.op) := ⟨by omega, fun k k1 k2 => by
        have := hres i v hir hv k k1 k2
        exact ⟨this, dead_of_none hH.rep this⟩⟩
      cases hx : it.2 with
      | some e =>
        rw [hx] at hstep
        obtain ⟨s1, s2⟩ := hstep
        have hw : Region.wanted o (yielded all a.tmps) = true := by
          rcases q5 with ⟨hg, hvg⟩ | ⟨j, want, g, d, hg, hj, hgd, hvg⟩
          · exact wanted_none hg
          · rcases s1 with s1 | ⟨g', want', s1, s3⟩
            · rw [hvg] at s1; cases s1
            · rw [hvg] at s1; cases s1
              obtain ⟨u, hu, hI⟩ := hS.ok _ _ s3
              obtain rfl : u = .bool want := hI
              have := wanted_some hg hj hgd hu
              rw [this]; simp
        rw [if_pos hw]
        refine wpIn_of_wpX r (no_defer q1) (op_good hk q1 s2 hS hH.rep hH.low hresi _ Q ?_)
        rintro e' ρ' w' u rfl hR hE hval hf
        refine rest (some e') ρ' w' u hx (hH.step hR hE hf (by omega)) ?_ hf
        have hS1 := hS.mono hE.ext
        refine ⟨by rw [← hS1.size]; cases o.dst <;> simp [Act.put], by cases o.dst <;> exact hS1.defers, fun t y hy => ?_⟩
        unfold updL at hy
        rw [q2] at hy
        cases hd : o.dst with
        | none =>
          rw [hd] at hy
          exact hS1.ok t y hy
        | some d =>
          rw [hd] at hy
          have hdn := q4 d hd
          simp only [putE] at hy
          by_cases e2 : d = t
          · subst e2
            rw [if_pos rfl] at hy; cases hy
            refine ⟨u, by simp only [Act.put]; rw [Array.getElem?_setIfInBounds, if_pos rfl, if_pos (by rw [hS1.size]; exact hdn)], ?_⟩
            simp only [Option.bind_some]
            cases hv' : e'.val with
            | some x => rw [hv'] at hval; exact hval
            | none => rw [hv'] at hval; rw [show u = undef from hval]; exact ⟨#[], rfl, rfl⟩
          · rw [if_neg e2] at hy
            obtain ⟨u', h1, h2⟩ := hS1.ok t y hy
            exact ⟨u', by simp only [Act.put]; rw [Array.getElem?_setIfInBounds_ne e2]; exact h1, h2⟩
      | none =>
        rw [hx] at hstep
        obtain ⟨g', want', s1, s3⟩ := hstep
        have hw : Region.wanted o (yielded all a.tmps) = false := by
          rcases q5 with ⟨hg, hvg⟩ | ⟨j, want, g, d, hg, hj, hgd, hvg⟩
          · rw [hvg] at s1; cases s1
          · rw [hvg] at s1; cases s1
            rcases s3 with ⟨b, hb, hne⟩ | s3
            · obtain ⟨u, hu, hI⟩ := hS.ok _ _ hb
              obtain rfl : u = .bool b := hI
              have := wanted_some hg hj hgd hu
              rw [this]
              simpa using hne
            · obtain ⟨u, hu, c, hI1, hI2⟩ := hS.ok _ _ s3
              subst hI1
              exact wanted_some hg hj hgd hu
        rw [if_neg (by rw [hw]; simp)]
        refine ⟨fun _ _ => trivial, rest none ρ w undef hx hH ?_ (fun _ _ => rfl)⟩
        refine ⟨by rw [← hS.size]; cases o.dst <;> simp [Act.put], by cases o.dst <;> exact hS.defers, fun t y hy => ?_⟩
        unfold updL at hy
        rw [q2] at hy
        cases hd : o.dst with
        | none =>
          rw [hd] at hy
          exact hS.ok t y hy
        | some d =>
          rw [hd] at hy
          have hdn := q4 d hd
          simp only [putE] at hy
          by_cases e2 : d = t
          · subst e2
            rw [if_pos rfl] at hy; cases hy
            exact ⟨undef, by simp only [Act.put]; rw [Array.getElem?_setIfInBounds, if_pos rfl, if_pos (by rw [hS.size]; exact hdn)], #[], rfl, rfl⟩
          · rw [if_neg e2] at hy
            obtain ⟨u', h1, h2⟩ := hS.ok t y hy
            exact ⟨u', by simp only [Act.put]; rw [Array.getElem?_setIfInBounds_ne e2]; exact h1, h2⟩
end Go.Proofs.Ytmdfkggflainbaa.VM
