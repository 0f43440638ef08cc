/- The evaluator: code, and a function. -/
import Derived.Test.YtmdfkggflainbaaVmP
import Derived.ScopeJumps
import Derived.RangeFuncOwn
namespace Go.Proofs.Ytmdfkggflainbaa.VM
open Go.RowKit
set_option linter.unusedVariables false
set_option linter.unusedSimpArgs false
variable {G : Ground} {P : Program} {ds : List Deferred} {eqs : List Nat} {news : FuncId → Nat} {ρ : PMap} {M : List Row} {w : World} {a : Act} {n base : Nat} {sl : Slots}
variable {ρ0 : PMap} {M0 : List Row} {w0 : World}
theorem trimW_spec : ∀ (ts : List Nat) (K : Slots → Prop), trimW sl ts K → ∃ sl', K sl' ∧ ∀ t v, look sl' t = some v → look sl t = some v
  | [], K, h => ⟨[], h, fun t v h => by cases h⟩
  | t :: ts, K, h => by
    simp only [trimW] at h
    split at h
    · rename_i v hv
      obtain ⟨r, h1, h2⟩ := trimW_spec ts _ h
      refine ⟨(t, v) :: r, h1, fun k u hk => ?_⟩
      rw [look_cons] at hk
      split at hk
      · rename_i e; subst e; cases hk; exact hv
      · exact h2 k u hk
    · exact trimW_spec ts _ h
theorem lenR_appR : ∀ (l m : List Row), lenR (appR l m) = lenR l + lenR m
  | [], m => by simp [appR, lenR]
  | r :: l, m => by simp only [appR, lenR, lenR_appR l m]; omega
theorem rowAt_appR : ∀ (l m : List Row) (b : Nat), rowAt (appR l m) b = if b < lenR l then rowAt l b else rowAt m (b - lenR l)
  | [], m, b => by simp [appR, lenR]
  | r :: l, m, 0 => by simp [appR, rowAt, lenR]
  | r :: l, m, b + 1 => by
    simp only [appR, rowAt]
    rw [rowAt_appR l m b]
    by_cases h : b < lenR l
    · rw [if_pos h, if_pos (show b + 1 < lenR (r :: l) by simp only [lenR]; omega)]
    · rw [if_neg h, if_neg (show ¬ b + 1 < lenR (r :: l) by simp only [lenR]; omega)]; congr 1; simp only [lenR]; omega
theorem lenR_deads : ∀ k, lenR (deads k) = k
  | 0 => rfl
  | k + 1 => by simp [deads, lenR, lenR_deads k]
theorem rowAt_deads : ∀ k b, rowAt (deads k) b = .dead
  | 0, _ => rfl
  | k + 1, 0 => rfl
  | k + 1, b + 1 => by simp only [deads, rowAt]; exact rowAt_deads k b
theorem rowAt_more (M : List Row) (k b : Nat) : rowAt (appR M (deads k)) b = rowAt M b := by
  rw [rowAt_appR]
  split
  · rfl
  · rw [rowAt_deads, rowAt_ge (by omega)]
theorem owned_more {k j : Nat} : Owned ρ (appR M (deads k)) w j ↔ Owned ρ M w j := by
  unfold Owned
  simp only [rowAt_more]
theorem Hist.more (h : Hist G ρ0 M0 w0 ds ρ M w) (k : Nat) : Hist G ρ0 M0 w0 ds ρ (appR M (deads k)) w where
  rep := ⟨fun b p hb => by rw [lenR_appR]; have := h.rep.dom b p hb; omega, fun b hl => by rw [rowAt_more] at hl ⊢; exact h.rep.rows b hl, fun b c p q x hne hb hc hp hq hx => by rw [rowAt_more] at hb hc hx ⊢; exact h.rep.apart b c p q x hne hb hc hp hq hx⟩
  low := ⟨h.low.size, h.low.same, fun k hk => h.low.high k (owned_more.1 hk)⟩
  marks := h.marks.on (Nat.le_refl _) (fun _ _ _ => rfl) (fun k _ hk => owned_more.1 hk)
  ev := ⟨h.ev.ext, h.ev.os, h.ev.tape, h.ev.output, h.ev.size, h.ev.frame, fun k hk => h.ev.owned k (owned_more.1 hk), fun b p x hl hp hx => h.ev.fresh b p x (by rwa [rowAt_more] at hl) hp (by rwa [rowAt_more] at hx)⟩
  same := h.same
  len := by rw [lenR_appR]; have := h.len; omega
/-! the state anew -/
theorem reach_prefix (M : List Row) : ∀ (f : Nat) (todo seen : List Nat), ∃ r, reach M f todo seen = seen ++ r
  | 0, _, seen => ⟨[], by simp [reach]⟩
  | f + 1, [], seen => ⟨[], by simp [reach]⟩
  | f + 1, b :: todo, seen => by
    simp only [reach]
    split
    · exact reach_prefix M f _ _
    · obtain ⟨r, h⟩ := reach_prefix M f ((rowAt M b).ids ++ todo) (seen ++ [b])
      exact ⟨b :: r, by rw [h]; simp⟩
theorem lenI_append : ∀ (l m : List Nat), lenI (l ++ m) = lenI l + lenI m
  | [], m => by simp [lenI]
  | x :: l, m => by simp only [List.cons_append, lenI, lenI_append l m]; omega
theorem lenI_range0 : ∀ k s, lenI (range0 s k) = k
  | 0, _ => rfl
  | k + 1, s => by simp [range0, lenI, lenI_range0 k]
theorem back_append (x : Nat) : ∀ (l m : List Nat) (k : Nat), k < lenI l → back (l ++ m) x k = back l x k
  | [], m, k, h => by simp [lenI] at h
  | c :: l, m, 0, _ => rfl
  | c :: l, m, k + 1, h => by simp only [List.cons_append, back]; exact back_append x l m k (by simp only [lenI] at h; omega)
theorem back_range0 (x : Nat) : ∀ (m s k : Nat), k < m → back (range0 s m) x k = s + k
  | 0, _, _, h => by omega
  | m + 1, s, 0, _ => rfl
  | m + 1, s, k + 1, h => by simp only [range0, back]; rw [back_range0 x m (s + 1) k (by omega)]; omega
theorem Hist.gc {ids r : List Nat} (h : Hist G ρ0 M0 w0 ds ρ M w) (hids : ids = range0 0 (lenR M0) ++ r) (hc : ∀ b ∈ ids, ∀ c ∈ (rowAt M b).ids, c ∈ ids) (hd : ids.Nodup) (h0 : ∀ b p, ρ0 b = some p → b < lenR M0) :
    Hist G ρ0 M0 w0 ds (into ρ ids) (rowsAt M (fun b => idx b ids) ids) w := by
  have hfirst : ∀ k, k < lenR M0 → k < lenI ids ∧ back ids 0 k = k := fun k hk => by
    subst hids
    rw [lenI_append, lenI_range0]
    refine ⟨by omega, ?_⟩
    rw [back_append 0 _ _ _ (by rw [lenI_range0]; exact hk), back_range0 0 _ _ _ hk]; omega
  have hsame : ∀ b, b < lenR M0 → into ρ ids b = ρ0 b := fun b hb => by
    rw [into_lt (hfirst b hb).1, (hfirst b hb).2, h.same b hb]
  refine ⟨h.rep.into hc hd, h.low.into, h.marks.on (Nat.le_refl _) (fun _ _ _ => rfl) (fun k _ hk => owned_into hk), ⟨fun b p hb => by rw [hsame b (h0 b p hb)]; exact hb, h.ev.os, h.ev.tape, h.ev.output, h.ev.size, h.ev.frame, fun k hk => h.ev.owned k (owned_into hk), fun b p x hl hp hx => ?_⟩, hsame, by rw [lenR_rowsAt]; subst hids; rw [lenI_append, lenI_range0]; omega⟩
  obtain ⟨g1, g2⟩ := into_some hp
  rw [rowAt_rowsAt M _ 0 g1, ren_live] at hl
  rw [rowAt_rowsAt M _ 0 g1, ren_cov] at hx
  rcases h.ev.fresh _ p x hl g2 hx with ⟨f1, f2, f3⟩ | f | f
  · have hlt := h0 _ _ f2
    have e : back ids 0 b = b := by
      have h1 := idx_back 0 hd g1
      have h2 := hfirst _ hlt
      have h3 := idx_back 0 hd h2.1
      rw [h2.2] at h3
      rw [← h3, h1]
    rw [e] at f1 f2 f3
    exact .inl ⟨f1, f2, f3⟩
  · exact .inr (.inl f)
  · exact .inr (.inr f)
theorem gcW_spec {cx : Cx} {K : Slots → List Row → Prop} (hm : cx.m = lenR M0) (h0 : ∀ b p, ρ0 b = some p → b < lenR M0) (h : gcW cx sl M K) (hH : Hist G ρ0 M0 w0 ds ρ M w) (hS : SlotsOk ρ n ds (look sl) a) :
    ∃ sl' M' ρ', K sl' M' ∧ Hist G ρ0 M0 w0 ds ρ' M' w ∧ SlotsOk ρ' n ds (look sl') a := by
  unfold gcW at h
  obtain ⟨sl0, h, hsub0⟩ := trimW_spec _ _ h
  obtain ⟨sl1, hsub1, h⟩ := h.ex
  rw [forceSl_eq] at h
  have hsub : ∀ t v, look sl1 t = some v → look sl t = some v := fun t v ht => hsub0 t v (hsub1 t v ht)
  rw [forceNL_eq] at h
  obtain ⟨hok, h⟩ := h
  rw [forceSl_eq, forceM_eq] at h
  obtain ⟨r, hr⟩ := reach_prefix M fuel (idsRows M (range0 0 cx.m) ++ idsSl sl1) (range0 0 cx.m)
  generalize reach M fuel (idsRows M (range0 0 cx.m) ++ idsSl sl1) (range0 0 cx.m) = ids at *
  obtain ⟨k1, k2, k3⟩ := okIds_iff hok
  have hS1 := hS.sub hsub
  refine ⟨_, _, into ρ ids, h, hH.gc (r := r) (by rw [hr, hm]) k2 k3 h0, hS1.size, hS1.defers, fun t v hv => ?_⟩
  rw [look_renSl] at hv
  simp only [Option.map_eq_some_iff] at hv
  obtain ⟨u, hu, rfl⟩ := hv
  obtain ⟨x, hx, hI⟩ := hS1.ok t u hu
  exact ⟨x, hx, hI.ren fun b hb p hp => by rw [into_idx (k1 b (List.mem_append.2 (.inr (look_ids hu b hb))))]; exact hp⟩
/-! code -/
def Ex.phys : Ex → Exit
  | .normal => .normal
  | .exit id => .exit id
  | .goto l => .goto l
  | .ret => .ret
def Fin (G : Ground) (ρ0 : PMap) (M0 : List Row) (w0 : World) (n : Nat) (Q : Post) (e : Exit) (a : Act) (w : World) : Prop :=
  ∃ ex sl M ρ ds, e = ex.phys ∧ Q ex sl M ∧ Hist G ρ0 M0 w0 ds ρ M w ∧ SlotsOk ρ n ds (look sl) a
theorem cCode_find : ∀ {c : Code} {vc : VCode} {l : Nat} {vr : VCode}, cCode P eqs news n c = some vc → vfind vc l = some vr → ∃ r, findLabel c l = some r ∧ cCode P eqs news n r = some vr := by
  intro c
  induction c with
  | seq x y ihx ihy =>
    intro vc l vr hc hv
    simp only [cCode] at hc
    split at hc
    · rename_i vx vy h1 h2
      cases hc
      simp only [vfind] at hv
      split at hv
      · rename_i r hr
        cases hv
        obtain ⟨r', g1, g2⟩ := ihx h1 hr
        exact ⟨.seq r' y, by simp [findLabel, g1], by simp [cCode, g2, h2]⟩
      · rename_i hr
        obtain ⟨r', g1, g2⟩ := ihy h2 hv
        refine ⟨r', ?_, g2⟩
        have : findLabel x l = none := by
          have key : ∀ (x : Code) (vx : VCode), cCode P eqs news n x = some vx → vfind vx l = none → findLabel x l = none := by
            intro x
            induction x with
            | seq p q ihp ihq =>
              intro vx hx hv
              simp only [cCode] at hx
              split at hx
              · rename_i vp vq k1 k2
                cases hx
                simp only [vfind] at hv
                split at hv
                · cases hv
                · rename_i k3
                  simp [findLabel, ihp _ k1 k3, ihq _ k2 hv]
              · cases hx
            | label k =>
              intro vx hx hv
              cases hx
              simp only [vfind] at hv
              split at hv
              · cases hv
              · rename_i k3
                have : (k == l) = false := by
                  cases hk : k == l with
                  | false => rfl
                  | true => rw [beq_iff_eq] at hk; rw [hk, Nat.beq_refl] at k3; cases k3
                simp only [findLabel, this]
                rfl
            | _ => intro vx hx hv; rfl
          exact key x vx h1 hr
        simp [findLabel, this, g1]
    · cases hc
  | label k =>
    intro vc l vr hc hv
    cases hc
    simp only [vfind] at hv
    split at hv
    · rename_i h
      cases hv
      exact ⟨.skip, by simp [findLabel, Nat.eq_of_beq_eq_true h], rfl⟩
    · cases hv
  | _ =>
    intro vc l vr hc hv
    simp only [cCode] at hc
    repeat' split at hc
    all_goals first | (cases hc; done) | (cases hc; simp [vfind] at hv)
/-- A loop, from the round's begin on. -/
def Round (r : Option Nat) (P : Program) (c : Code) (Q : Exit → Act → World → Prop) (a : Act) (w : World) : Prop :=
  ∀ (b : Frame) (k : List Go.Item) (cs : List Frame), b.roundOf = (fz r).round → ∃ e a' w', Q e a' w' ∧ ArrivesIn (Machine.fenced P (fz r)) P (lone (b.atR a (.code c :: .inLoop c :: k)) cs w) b k cs e a' w'
theorem fz_room (r : Option Nat) (n : Nat) : (fz r).room n := fun _ h => by cases h
theorem round_of {r : Option Nat} {c : Code} {Q : Exit → Act → World → Prop} (h : c.wpIn (fz r) 0 P (Exit.then (Round r P c Q) Q) a w) : Round r P c Q a w := fun b k cs hro => by
  obtain ⟨e, a₁, w₁, hq, harr⟩ := h b (.inLoop c :: k) cs hro trivial (fz_room _ _)
  cases e with
  | normal =>
    obtain ⟨e₂, a₂, w₂, hq₂, harr₂⟩ := hq b k cs hro
    exact ⟨e₂, a₂, w₂, hq₂, .of_steps (StepsIn.trans harr (.one (fenced_calm (F := fz r) (n := 0) trivial (fz_room _ _) rfl) stepR_inLoop)) harr₂⟩
  | exit id => exact ⟨_, a₁, w₁, hq, .pass (x := .inLoop c) rfl (fun _ _ => .inl (by simp)) harr⟩
  | goto l => exact ⟨_, a₁, w₁, hq, .pass (x := .inLoop c) rfl (fun _ _ => .inl (by simp)) harr⟩
  | ret => exact ⟨_, a₁, w₁, hq, .pass (x := .inLoop c) rfl (fun _ _ => .inl (by simp)) harr⟩
  | panic ch => exact ⟨_, a₁, w₁, hq, .pass (x := .inLoop c) rfl (fun _ _ => .inl (by simp)) harr⟩
  | outgrown => exact ⟨_, a₁, w₁, hq, .pass (x := .inLoop c) rfl (fun _ _ => .inl (by simp)) harr⟩
theorem loop_of_round {r : Option Nat} {c : Code} {Q : Exit → Act → World → Prop} (h : Round r P c Q a w) : (Code.loop c).wpIn (fz r) 0 P Q a w := fun b k cs hro hb hr => by
  obtain ⟨e, a', w', hq, harr⟩ := h b k cs hro
  exact ⟨e, a', w', hq, .of_steps (.one (fenced_calm (F := fz r) (n := 0) trivial (fz_room _ _) rfl) stepR_loop) harr⟩
/-- A scope, from the label on. -/
def Pass (P : Program) (c rest : Code) (Q : Exit → Act → World → Prop) (a : Act) (w : World) : Prop :=
  ∀ (b : Frame) (k : List Go.Item) (cs : List Frame), ∃ e a' w', Q e a' w' ∧ Arrives P (lone (b.at a (.code rest :: .inScope c :: k)) cs w) b k cs e a' w'
theorem scope_arr {c x rest : Code} {l : Nat} {Q : Exit → Act → World → Prop} (hf : findLabel c l = some rest) (h : x.wp P (Exit.jump l (Pass P c rest Q) Q) a w) (b : Frame) (k : List Go.Item) (cs : List Frame) :
    ∃ e a' w', Q e a' w' ∧ Arrives P (lone (b.at a (.code x :: .inScope c :: k)) cs w) b k cs e a' w' := by
  have hg : gotoIn l (.inScope c :: k) = some (.code rest :: .inScope c :: k) := by simp [gotoIn, hf]
  obtain ⟨e, a₁, w₁, hq, harr⟩ := h b (.inScope c :: k) cs
  cases e with
  | normal => exact ⟨.normal, a₁, w₁, hq, Steps.trans harr (.one step_inScope)⟩
  | exit id => exact ⟨.exit id, a₁, w₁, hq, fun k' hk => harr k' (by simp [exitTo, hk])⟩
  | goto l' =>
    obtain ⟨rfl, hJ'⟩ := hq
    obtain ⟨e₂, a₂, w₂, hq₂, harr₂⟩ := hJ' b k cs
    exact ⟨e₂, a₂, w₂, hq₂, .of_steps (harr _ hg) harr₂⟩
  | ret => exact ⟨_, a₁, w₁, hq, harr⟩
  | panic ch => exact ⟨_, a₁, w₁, hq, harr⟩
  | outgrown => exact ⟨_, a₁, w₁, hq, harr⟩
theorem scope_of {c rest : Code} {l : Nat} {Q : Exit → Act → World → Prop} (hf : findLabel c l = some rest) (h : c.wp P (Exit.jump l (Pass P c rest Q) Q) a w) : (Code.scope c).wp P Q a w := fun b k cs => by
  obtain ⟨e, a', w', hq, harr⟩ := scope_arr hf h b k cs
  exact ⟨e, a', w', hq, .of_steps (.one step_scope) harr⟩
theorem capsIs_PL {caps : List (Nat × Nat)} {vs : List Value} (h : capsIs ρ caps vs) : isPL ρ (capsV caps) vs := isPL_caps h
theorem rowAt_old (M : List Row) (l : List Row) {b : Nat} (h : b < lenR M) : rowAt (appR M l) b = rowAt M b := by rw [rowAt_appR, if_pos h]
/-- The statement 'for .. := range f'. -/
theorem rangeF_sound {f : Operand} {vf : VX} {ps : Array Tmp} {asg body : Code} {va vb : VCode} {cx : Cx} {Q : Post} {sl : Slots} {g : FuncId} {caps : List (Nat × Nat)} {cv : Array Value}
    (hf : cX f = some vf) (hps : ps.toList.all (fun t => Nat.ble (t + 1) n) = true) (hva : cCode Try.prog eqsT newsT n asg = some va) (hvb : cCode Try.prog eqsT newsT n body = some vb) (hcn : cx.n = n) (hG : cx.G = G)
    (hH : Hist G ρ0 M0 w0 ds ρ M w) (hS : SlotsOk ρ n ds (look sl) a) (hcv : a.eval f = .func (.func g) #[] cv) (hcaps : capsIs ρ caps cv.toList)
    (h : callW G Try.prog false (appR M (.loop cx.n cx.keep sl ps.toList va vb .ready :: deads newsR)) (lenR M + 1) g (.o (.yl (lenR M)) :: capsV caps) newsR fun e => forceM (app (appR M (.loop cx.n cx.keep sl ps.toList va vb .ready :: deads newsR)) e (lenR M + 1)) fun M' => match rowAt M' (lenR M) with
      | .loop _ _ _ _ _ _ .ready => forceM (setRow M' (lenR M) .dead) fun M => Q .normal sl M
      | .loop _ _ _ _ _ _ (.done ex) => forceM (setRow M' (lenR M) .dead) fun M => Q ex sl M
      | _ => False) : (Code.rangeFunc f ps asg body).wpIn (fz none) 0 Try.prog (Fin G ρ0 M0 w0 n Q) a w := by
  subst hG
  have hb : ρ (lenR M) = none := by
    cases hq : ρ (lenR M) with
    | none => rfl
    | some p => have := hH.rep.dom _ p hq; omega
  -- the record, and its row
  let B := lenR M
  let M1 := appR M (.loop cx.n cx.keep sl ps.toList va vb .ready :: deads newsR)
  let Mz := appR M (deads (newsR + 1))
  have hM1 : M1 = setRow Mz B (.loop cx.n cx.keep sl ps.toList va vb .ready) := by
    show appR M (_ :: deads newsR) = setRow (appR M (.dead :: deads newsR)) (lenR M) _
    have : ∀ (M : List Row) (r s : Row) (l : List Row), appR M (r :: l) = setRow (appR M (s :: l)) (lenR M) r := by
      intro M
      induction M with
      | nil => intro r s l; rfl
      | cons x M ih => intro r s l; simp only [appR, lenR, setRow]; rw [← ih r s l]
    exact this M _ _ _
  have hHz := hH.more (newsR + 1)
  have hBz : B < lenR Mz := by show lenR M < lenR (appR M _); rw [lenR_appR, lenR_deads]; unfold newsR; omega
  have hdz : rowAt Mz B = .dead := by show rowAt (appR M (deads _)) _ = _; rw [rowAt_more, rowAt_ge (Nat.le_refl _)]
  have hwF := fun (fn : FuncId) => run_enterLoop_outer (P := Try.prog) (w := w) fn a.tmps ps asg body
  let w1 := w.alloc (.deferred (some []))
  have hR1 : Rep ρ Mz w1 := hHz.rep.same (by show w.heap.size ≤ (w.heap.push _).size; simp) (fun k hk => by show (w.heap.push _)[k]? = _; rw [Array.getElem?_push, if_neg (by omega)])
  have hE1 : Ev ρ Mz w ρ Mz w1 := .same hHz.rep rfl rfl rfl (by show w.heap.size ≤ (w.heap.push _).size; simp) (fun k hk => by show (w.heap.push _)[k]? = _; rw [Array.getElem?_push, if_neg (by omega)])
  have hs1 : w1.heap.size = w.heap.size + 1 := by show (w.heap.push _).size = _; simp
  refine wpIn_rangeFunc (F := fz none) (n := 0) (Q := Fin cx.G ρ0 M0 w0 n Q) (fun fn' _ => ?_)
  obtain ⟨L, hL⟩ : ∃ L : Go.Loop, L = { state := .ready, pending := none, fn := fn', tmps := a.tmps, params := ps, assign := asg, body := body, defers := w.heap.size } := ⟨_, rfl⟩
  let w2 := w1.alloc (.loop L)
  have hx : Ext ρ (upd ρ B ⟨w1.heap.size, 0, 0⟩) := upd_ext hb
  have hnew : w2.heap[w1.heap.size]? = some (.loop L) := by show (w1.heap.push _)[_]? = _; simp
  obtain ⟨hR2, hE2⟩ := new_obj (nid := B) (fin := 0) (r := .loop cx.n cx.keep sl ps.toList va vb .ready) (w' := w2) (o := .loop L) hR1 hb hBz hdz rfl rfl rfl rfl
    ⟨rfl, L, hnew, by
      subst hL
      exact ⟨by rw [hcn]; exact hS.size, fun t v hv => by obtain ⟨u, h1, h2⟩ := hS.ok t v hv; exact ⟨u, h1, h2.ext hx⟩, rfl, fun t ht => by rw [hcn]; exact Nat.le_of_ble_eq_true (List.all_eq_true.1 hps t ht), by rw [hcn]; exact hva, by rw [hcn]; exact hvb, ⟨rfl, rfl⟩⟩⟩ (fun k hk => hk)
  rw [← hM1] at hR2 hE2
  have hE12 := hE1.trans hE2
  have hds : w2.heap[w.heap.size]? = some (.deferred (some [])) := by
    show ((w.heap.push _).push _)[_]? = _
    rw [Array.getElem?_push, if_neg (by simp), Array.getElem?_push, if_pos rfl]
  -- the marks
  have hown : ∀ j, Owned (upd ρ B ⟨w1.heap.size, 0, 0⟩) M1 w2 j → Owned ρ Mz w j ∨ j = w1.heap.size := fun j ⟨c, p, h1, h2, h3⟩ => by
    by_cases e : c = B
    · subst e
      rw [upd_same] at h2; cases h2
      rw [hM1, rowAt_setRow_same _ hBz] at h3
      exact .inr h3
    · rcases hE12.owned j ⟨c, p, h1, h2, h3⟩ with h4 | h4
      · exact .inl h4
      · left
        rw [hM1, rowAt_setRow_other _ _ (Ne.symm e)] at h1 h3
        rw [upd_other _ e] at h2
        obtain ⟨q, hq, hr⟩ := hHz.rep.rows c (rw_live h1)
        rw [h2] at hq; cases hq
        have := (hr.keep' (ρ' := ρ) (w' := w2) (fun _ _ h => h) hE12.size (fun k hk => by
          have hkl := hr.cov_lt hk
          show ((w.heap.push _).push _)[k]? = _
          rw [Array.getElem?_push, if_neg (by simp; omega), Array.getElem?_push, if_neg (by omega)])).2 j h3
        exact ⟨c, p, h1, h2, this⟩
  have hmk : Marks (upd ρ B ⟨w1.heap.size, 0, 0⟩) M1 w2 w0.heap.size ({ target := .collected w.heap.size, args := #[] } :: ds) := by
    refine ⟨⟨w.heap.size, rfl, hH.ev.size, by show _ < (w1.heap.push _).size; simp [hs1]; omega, hds, fun ho => ?_, fun d' hd' e => ?_⟩, hHz.marks.ev hE12⟩
    · rcases hown _ ho with ⟨c, p, h1, h2, h3⟩ | h1
      · obtain ⟨q, hq, hr⟩ := hHz.rep.rows c (rw_live h1)
        rw [h2] at hq; cases hq
        have := hr.cov_lt h3; omega
      · omega
    · have : ∀ (ds : List Deferred), Marks ρ M w w0.heap.size ds → ∀ d' ∈ ds, d' ≠ { target := .collected w.heap.size, args := #[] } := by
        intro ds
        induction ds with
        | nil => intro _ d' h; cases h
        | cons d ds ih =>
          rintro ⟨⟨r, h1, _, h3, _⟩, h⟩ d' hd' e
          rcases List.mem_cons.1 hd' with h2 | h2
          · rw [h2, h1] at e
            simp only [Deferred.mk.injEq, Target.collected.injEq, and_true] at e
            omega
          · exact ih h d' h2 e
      exact this ds hH.marks d' hd' e
  have hL2 : Low cx.G (upd ρ B ⟨w1.heap.size, 0, 0⟩) M1 w2 := hHz.low.ev hE12
  have hdead : ∀ i, B + 1 ≤ i → i < B + 1 + newsR → upd ρ B ⟨w1.heap.size, 0, 0⟩ i = none ∧ rowAt M1 i = .dead := fun i h1 h2 => by
    refine ⟨?_, ?_⟩
    · rw [upd_other _ (by omega)]
      cases hq : ρ i with
      | none => rfl
      | some p => have := hH.rep.dom i p hq; omega
    · rw [hM1, rowAt_setRow_other _ _ (by omega)]
      show rowAt (appR M (deads _)) _ = _
      rw [rowAt_more, rowAt_ge (by omega)]
  have hlenM1 : lenR M1 = B + 1 + newsR := by
    show lenR (appR M (_ :: deads newsR)) = _
    rw [lenR_appR]
    simp only [lenR, lenR_deads]
    omega
  -- the call
  have hyl : (PV.o (.yl B)).Is (upd ρ B ⟨w1.heap.size, 0, 0⟩) (.func (.yield w1.heap.size) #[] #[]) := ⟨_, upd_same _ _ _, rfl⟩
  obtain ⟨hent, hcall⟩ := callG_run (G := cx.G) (w := w2) (T := fun p => Ent Try.prog g ∧ CallsIn Fence.wide 0 Try.prog g (.func (.yield w1.heap.size) #[] #[] :: cv.toList).toArray w2 fun e w' => ∃ u, e = .returned u ∧ p u w')
    (fun p q hpq hpp => by
      refine ⟨hpp.1, CallsIn.mono hpp.2 ?_⟩
      rintro e w' ⟨u, h3, h4⟩
      exact ⟨u, h3, hpq u w' h4⟩)
    (vs := .o (.yl B) :: capsV caps) (us := .func (.yield w1.heap.size) #[] #[] :: cv.toList) (nn := newsR)
    (fun xs Mc kk hk => by
      obtain ⟨R, h1, hcan⟩ := call_stop hk
      refine ⟨R, h1, fun ρ' hR' hL' hp => ⟨hcan.ent, callsIn_wide.2 ((hcan.run ρ' w2 _ hR' hL' hp).mono ?_)⟩⟩
      rintro e w' ⟨u, v, M', ρc, rfl, g1, g2⟩
      exact ⟨u, rfl, v, M', ρc, g1, g2⟩)
    ⟨_, _, rfl, hyl, capsIs_PL (capsIs_ext hx hcaps)⟩ hR2 hL2 hdead (by omega) h
  obtain ⟨fn, hfn, hnm, hbody⟩ := hent
  have eg : ∀ args w, (callFunc g args).run Try.prog w = .ok (.enter g args) w := fun args w => by
    simp only [callFunc, Sem.run_bind, run_program, Result.andThen_ok, hfn, hnm, hbody, Bool.false_eq_true, if_false]
    simp
  refine ⟨w1.heap.size, [{ target := .collected w.heap.size, args := #[] }], w2, { target := .fn (.func g) cv, args := #[.func (.yield w1.heap.size) #[] #[]] }, w2, g,
    #[.func (.yield w1.heap.size) #[] #[]] ++ cv, w2, ?_, ?_, fun _ _ => trivial, ?_, fun h => (by cases h), ?_⟩
  · have := hwF fn'
    rw [hs1]
    refine this.trans ?_
    show _ = Result.ok _ (World.alloc _ (.loop L))
    rw [hL]
  · simp only [resolve, hcv]
    simp [go_sem]
  · simp [invoke, go_sem, eg]
  · have eargs : (.func (.yield w1.heap.size) #[] #[] :: cv.toList : List Value).toArray = #[.func (.yield w1.heap.size) #[] #[]] ++ cv := by
      apply Array.ext'; simp
    rw [eargs] at hcall
    refine CallsIn.mono (R := fun e w' => ∃ u, e = .returned u ∧ ∃ e' ρ', _) hcall ?_
    rintro e w3 ⟨u, rfl, e', ρ', hK, hR3, hE3, _, hf3⟩
    have hρB : ρ' B = some ⟨w1.heap.size, 0, 0⟩ := by rw [hf3 B (.inl (by omega)), upd_same]
    have hE123 := hE12.trans hE3
    -- behind the function
    have fin : ∀ (n' : Nat) (keep' : List Nat) (sl' : Slots) (ps' : List Nat) (asg' body' : VCode) (st : LS) (jump : Option Code), rowAt (app M1 e' (B + 1)) B = .loop n' keep' sl' ps' asg' body' st →
        (∀ L3, LoopIs ρ' L3 n' sl' ps' asg' body' st → L3.state ≠ .busy ∧ L3.pending = jump) →
        ∃ w4, (Instr.endLoop w1.heap.size).run Try.prog w3 = .ok jump w4 ∧ Hist cx.G ρ0 M0 w0 ({ target := .collected w.heap.size, args := #[] } :: ds) ρ' (setRow (app M1 e' (B + 1)) B .dead) w4 := fun n' keep' sl' ps' asg' body' st jump hrow hst => by
      obtain ⟨q, hq, hr⟩ := hR3.rows B (by rw [hrow]; rfl)
      rw [hρB] at hq; cases hq
      rw [hrow] at hr
      obtain ⟨_, L3, hL3, hI3⟩ := hr
      obtain ⟨g1, g2⟩ := hst L3 hI3
      have hend := run_endLoop (P := Try.prog) hL3 g1
      refine ⟨w3.putObj w1.heap.size (.loop { L3 with state := .exhausted }), by rw [← g2]; exact hend, ?_⟩
      have hl3 := lt_of_heap hL3
      obtain ⟨hR4, hE4⟩ := set_obj (r := .dead) (w' := w3.putObj w1.heap.size (.loop { L3 with state := .exhausted })) hR3 (by rw [hrow]; rfl) hρB (by rw [hrow]; rfl) (by simp [World.putObj]) (fun k hk => World.putObj_heap_other hk) rfl rfl rfl trivial (fun _ h => h.elim)
      have hE := (hHz.ev.trans hE123).trans hE4
      refine ⟨hR4, hHz.low.ev (hE123.trans hE4), (hmk.ev hE3).ev hE4, hE, fun b hb' => ?_, ?_⟩
      · have hbB : b < B := Nat.lt_of_lt_of_le hb' hH.len
        rw [hf3 b (.inl (by omega)), upd_other _ (by omega), hH.same b hb']
      · rw [lenR_setRow, lenR_app, hlenM1]; have := hH.len; omega
    have hS' : SlotsOk ρ' n ({ target := .collected w.heap.size, args := #[] } :: ds) (look sl) { a with defers := [{ target := .collected w.heap.size, args := #[] }] ++ a.defers } :=
      ⟨hS.size, by simp [hS.defers], fun t v hv => by obtain ⟨u, h1, h2⟩ := hS.ok t v hv; exact ⟨u, h1, h2.ext (fun b p hb => hE123.ext b p hb)⟩⟩
    rw [forceM_eq] at hK
    split at hK
    · rename_i n' keep' sl' ps' asg' body' hrow
      rw [forceM_eq] at hK
      obtain ⟨w4, h1, h2⟩ := fin _ _ _ _ _ _ _ none hrow fun L3 h => by obtain ⟨g1, g2⟩ := h.pend; exact ⟨by rw [g1]; simp, g2⟩
      exact ⟨none, w4, h1, .normal, sl, _, ρ', _, rfl, hK, h2, hS'⟩
    · rename_i n' keep' sl' ps' asg' body' ex hrow
      rw [forceM_eq] at hK
      cases ex with
      | normal =>
        obtain ⟨q, hq, hr⟩ := hR3.rows B (by rw [hrow]; rfl)
        rw [hrow] at hr
        obtain ⟨_, L3, hL3, hI3⟩ := hr
        obtain ⟨c, hc, _⟩ := hI3.pend
        cases hc
      | exit id =>
        obtain ⟨w4, h1, h2⟩ := fin _ _ _ _ _ _ _ (some (.exit id)) hrow fun L3 h => by obtain ⟨c, g0, g1, g2⟩ := h.pend; cases g0; exact ⟨by rw [g1]; simp, g2⟩
        exact ⟨_, w4, h1, wpIn_exit ⟨.exit id, sl, _, ρ', _, rfl, hK, h2, hS'⟩⟩
      | goto l =>
        obtain ⟨w4, h1, h2⟩ := fin _ _ _ _ _ _ _ (some (.goto l)) hrow fun L3 h => by obtain ⟨c, g0, g1, g2⟩ := h.pend; cases g0; exact ⟨by rw [g1]; simp, g2⟩
        exact ⟨_, w4, h1, wpIn_goto ⟨.goto l, sl, _, ρ', _, rfl, hK, h2, hS'⟩⟩
      | ret =>
        obtain ⟨w4, h1, h2⟩ := fin _ _ _ _ _ _ _ (some .ret) hrow fun L3 h => by obtain ⟨c, g0, g1, g2⟩ := h.pend; cases g0; exact ⟨by rw [g1]; simp, g2⟩
        exact ⟨_, w4, h1, wpIn_ret ⟨.ret, sl, _, ρ', _, rfl, hK, h2, hS'⟩⟩
    · exact hK.elim
theorem W_sound (hk : Known Try.prog eqsT) (hmix : Try.prog.follows .mixedOrders = true) {r : Option Nat} {cx : Cx} (hP : cx.P = Try.prog) (hG : cx.G = G) (hcn : cx.n = n) (htop : cx.top = true → r = none) (hm : cx.m = lenR M0) (h0 : ∀ b p, ρ0 b = some p → b < lenR M0) : ∀ (vc : VCode) (c : Code), cCode Try.prog eqsT newsT n c = some vc →
    ∀ (Q : Post) (sl : Slots) (M : List Row), W cx vc Q sl M → ∀ (ds : List Deferred) (ρ : PMap) (a : Act) (w : World), Hist G ρ0 M0 w0 ds ρ M w → SlotsOk ρ n ds (look sl) a → c.wpIn (fz r) 0 Try.prog (Fin G ρ0 M0 w0 n Q) a w := by
  intro vc
  induction vc with
  | skip =>
    intro c hc Q sl M h ds ρ a w hH hS
    cases c <;> simp only [cCode] at hc <;> (try (repeat' split at hc)) <;> cases hc
    exact wpIn_skip ⟨.normal, sl, M, ρ, ds, rfl, h, hH, hS⟩
  | label l =>
    intro c hc Q sl M h ds ρ a w hH hS
    cases c <;> simp only [cCode] at hc <;> (try (repeat' split at hc)) <;> cases hc
    exact wpIn_label ⟨.normal, sl, M, ρ, ds, rfl, h, hH, hS⟩
  | exit id =>
    intro c hc Q sl M h ds ρ a w hH hS
    cases c <;> simp only [cCode] at hc <;> (try (repeat' split at hc)) <;> cases hc
    exact wpIn_exit ⟨.exit id, sl, M, ρ, ds, rfl, h, hH, hS⟩
  | goto l =>
    intro c hc Q sl M h ds ρ a w hH hS
    cases c <;> simp only [cCode] at hc <;> (try (repeat' split at hc)) <;> cases hc
    exact wpIn_goto ⟨.goto l, sl, M, ρ, ds, rfl, h, hH, hS⟩
  | ret =>
    intro c hc Q sl M h ds ρ a w hH hS
    cases c <;> simp only [cCode] at hc <;> (try (repeat' split at hc)) <;> cases hc
    exact wpIn_ret ⟨.ret, sl, M, ρ, ds, rfl, h, hH, hS⟩
  | seq x y ihx ihy =>
    intro c hc Q sl M h ds ρ a w hH hS
    cases c <;> simp only [cCode] at hc <;> (try (repeat' split at hc)) <;> cases hc
    rename_i cx' cy h1 h2
    refine wpIn_seq (wpIn_mono (ihx _ h1 _ sl M h ds ρ a w hH hS) ?_)
    rintro e a' w' ⟨ex, sl', M', ρ', ds', rfl, hQ, hH', hS'⟩
    cases ex with
    | normal => exact ihy _ h2 Q sl' M' hQ ds' ρ' a' w' hH' hS'
    | exit id => exact ⟨.exit id, sl', M', ρ', ds', rfl, hQ, hH', hS'⟩
    | goto l => exact ⟨.goto l, sl', M', ρ', ds', rfl, hQ, hH', hS'⟩
    | ret => exact ⟨.ret, sl', M', ρ', ds', rfl, hQ, hH', hS'⟩
  | cond x p q ihp ihq =>
    intro c hc Q sl M h ds ρ a w hH hS
    cases c <;> simp only [cCode] at hc <;> (try (repeat' split at hc)) <;> cases hc
    rename_i h1 h2 h3
    simp only [W] at h
    split at h
    · rename_i b hb
      have hA := env_is hS h1 hb
      exact wpIn_cond_split (t := b) hA (fun e => ihp _ h2 Q sl M (h.yes e) ds ρ a w hH hS) (fun e => ihq _ h3 Q sl M (h.no e) ds ρ a w hH hS)
    · exact h.elim
  | block id x ih =>
    intro c hc Q sl M h ds ρ a w hH hS
    cases c <;> simp only [cCode] at hc <;> (try (repeat' split at hc)) <;> cases hc
    rename_i h1
    refine wpIn_block (wpIn_mono (ih _ h1 _ sl M h ds ρ a w hH hS) ?_)
    rintro e a' w' ⟨ex, sl', M', ρ', ds', rfl, hQ, hH', hS'⟩
    cases ex with
    | normal => exact ⟨.normal, sl', M', ρ', ds', rfl, hQ, hH', hS'⟩
    | exit i =>
      simp only [blockW] at hQ
      simp only [Ex.phys, Exit.inBlock]
      split at hQ
      · rename_i hb
        rw [if_pos (Nat.eq_of_beq_eq_true hb)]
        exact ⟨.normal, sl', M', ρ', ds', rfl, hQ, hH', hS'⟩
      · rename_i hb
        rw [if_neg (fun e => by rw [e, Nat.beq_refl] at hb; cases hb)]
        exact ⟨.exit i, sl', M', ρ', ds', rfl, hQ, hH', hS'⟩
    | goto l => exact ⟨.goto l, sl', M', ρ', ds', rfl, hQ, hH', hS'⟩
    | ret => exact ⟨.ret, sl', M', ρ', ds', rfl, hQ, hH', hS'⟩
  | loop x ih =>
    intro c hc Q sl M h ds ρ a w hH hS
    cases c <;> simp only [cCode] at hc <;> (try (repeat' split at hc)) <;> cases hc
    rename_i cx' h1
    obtain ⟨sl1, M1, ρ1, h, hH1, hS1⟩ := gcW_spec hm h0 h hH hS
    refine loop_of_round (h.run (fun sl M => ∀ ds ρ a w, Hist G ρ0 M0 w0 ds ρ M w → SlotsOk ρ n ds (look sl) a → Round r Try.prog _ (Fin G ρ0 M0 w0 n Q) a w) ?_ ds ρ1 a w hH1 hS1)
    intro sl M hW ds ρ a w hH hS
    refine round_of (wpIn_mono (ih _ h1 _ sl M hW ds ρ a w hH hS) ?_)
    rintro e a' w' ⟨ex, sl', M', ρ', ds', rfl, hQ, hH', hS'⟩
    cases ex with
    | normal =>
      obtain ⟨sl2, M2, ρ2, hX, hH2, hS2⟩ := gcW_spec hm h0 hQ hH' hS'
      exact hX ds' ρ2 a' w' hH2 hS2
    | exit id => exact ⟨.exit id, sl', M', ρ', ds', rfl, hQ, hH', hS'⟩
    | goto l => exact ⟨.goto l, sl', M', ρ', ds', rfl, hQ, hH', hS'⟩
    | ret => exact ⟨.ret, sl', M', ρ', ds', rfl, hQ, hH', hS'⟩
  | scope l x r ihx ihr =>
    intro c hc Q sl M h ds ρ a w hH hS
    cases c <;> simp only [cCode] at hc <;> (try (repeat' split at hc)) <;> cases hc
    rename_i cc _ _ _ h1 h2 h3
    obtain ⟨rest, hf, hr⟩ := cCode_find h1 h3
    simp only [W] at h
    split at h
    case h_2 => exact h.elim
    rename_i ht
    have hrn := htop ht
    subst hrn
    refine wpIn_wide.2 ?_
    have key : ∀ sl M, LoopW (fun X sl M => W cx r (gotoW l (fun sl M => gcW cx sl M X) Q) sl M) sl M → ∀ ds ρ a w, Hist G ρ0 M0 w0 ds ρ M w → SlotsOk ρ n ds (look sl) a → Pass Try.prog cc rest (Fin G ρ0 M0 w0 n Q) a w := fun sl M hL => by
      refine hL.run (fun sl M => ∀ ds ρ a w, Hist G ρ0 M0 w0 ds ρ M w → SlotsOk ρ n ds (look sl) a → Pass Try.prog cc rest (Fin G ρ0 M0 w0 n Q) a w) ?_
      intro sl M hW ds ρ a w hH hS
      refine scope_arr hf (wp_mono (wpIn_wide.1 (ihr _ hr _ sl M hW ds ρ a w hH hS)) ?_)
      rintro e a' w' ⟨ex, sl', M', ρ', ds', rfl, hQ, hH', hS'⟩
      cases ex with
      | normal => exact ⟨.normal, sl', M', ρ', ds', rfl, hQ, hH', hS'⟩
      | exit id => exact ⟨.exit id, sl', M', ρ', ds', rfl, hQ, hH', hS'⟩
      | goto i =>
        simp only [gotoW] at hQ
        split at hQ
        · rename_i hb
          obtain ⟨sl2, M2, ρ2, hX, hH2, hS2⟩ := gcW_spec hm h0 hQ hH' hS'
          exact ⟨Nat.eq_of_beq_eq_true hb, hX ds' ρ2 a' w' hH2 hS2⟩
        · exact hQ.elim
      | ret => exact ⟨.ret, sl', M', ρ', ds', rfl, hQ, hH', hS'⟩
    refine scope_of hf (wp_mono (wpIn_wide.1 (ihx _ h1 _ sl M h ds ρ a w hH hS)) ?_)
    rintro e a' w' ⟨ex, sl', M', ρ', ds', rfl, hQ, hH', hS'⟩
    cases ex with
    | normal => exact ⟨.normal, sl', M', ρ', ds', rfl, hQ, hH', hS'⟩
    | exit id => exact ⟨.exit id, sl', M', ρ', ds', rfl, hQ, hH', hS'⟩
    | goto i =>
      simp only [gotoW] at hQ
      split at hQ
      · rename_i hb
        obtain ⟨sl2, M2, ρ2, hX, hH2, hS2⟩ := gcW_spec hm h0 hQ hH' hS'
        exact ⟨Nat.eq_of_beq_eq_true hb, key sl2 M2 hX ds' ρ2 a' w' hH2 hS2⟩
      · exact hQ.elim
    | ret => exact ⟨.ret, sl', M', ρ', ds', rfl, hQ, hH', hS'⟩
  | reg vos tot pairs =>
    intro c hc Q sl M h ds ρ a w hH hS
    cases c <;> simp only [cCode] at hc <;> (try (repeat' split at hc)) <;> cases hc
    · rename_i id ops _ _ hops
      simp only [W] at h
      obtain ⟨sl1, h, hsub⟩ := trimW_spec _ _ h
      rw [forceN_eq, forceM_eq, hP, hG] at h
      refine wpIn_region ?_
      have := region_text (n := n) (ds := ds) (r := r) (ρ0 := ρ0) (M0 := M0) (w0 := w0) hk (all := ops) (base := lenR M) (Q := Fin G ρ0 M0 w0 n Q) (K := fun sl M _ => Q .normal sl M) hH.len (fun sl M ft ρ a w hq hH hS => ⟨.normal, sl, M, ρ, ds, rfl, hq, hH, hS⟩)
        ops.toList 0 0 vos tot sl1 (appR M (deads tot)) [] ρ a w rfl hops h (hH.more tot) (hS.sub hsub) (by rw [lenR_appR, lenR_deads]; exact Nat.le_refl _) (fun k hk => ?_)
      · rw [List.range_eq_range']; simpa using this
      · cases hq : ρ k with
        | none => rfl
        | some p => have := hH.rep.dom k p hq; omega
    · rename_i id ops _ _ _ _ hback hap hops
      simp only [W] at h
      obtain ⟨sl1, h, hsub⟩ := trimW_spec _ _ h
      rw [forceN_eq, forceM_eq, hP, hG] at h
      obtain ⟨its, sl2, M2, g1, g2, ⟨g3, g4⟩⟩ := run_of_opsW _ _ _ _ h
      simp only [List.nil_append] at g3
      obtain ⟨c1, c2, c3, c4⟩ := cOps_get _ _ _ _ hops
      have hlen : its.length = ops.size := by
        have := congrArg List.length g1
        rw [List.length_map, c1] at this; simpa using this
      refine wpIn_region_any hmix ?_
      refine region_any (n := n) (ds := ds) (r := r) (ρ0 := ρ0) (M0 := M0) (w0 := w0) (L' := look sl2) (M' := M2) hk (base := lenR M) hH.len hops g1 hback hap g3 (fun ρ a w hH hS => ⟨.normal, sl2, M2, ρ, ds, rfl, g4, hH, hS⟩)
        ops.size (List.range ops.size) _ (look sl1) (appR M (deads tot)) ρ a _ (by simp) List.nodup_range (by simp) (List.pairwise_lt_range) (fun i => ?_) (fun i p hi hl => ?_) (by rw [← hlen, pick_all]; exact g2) ((hH.more tot).drew _) (hS.sub hsub)
        (by rw [lenR_appR, lenR_deads]; exact Nat.le_refl _) (fun i v _ _ k hk1 _ => ?_)
      · simp only [List.mem_range, Array.getD_eq_getD_getElem?]
        constructor
        · intro h; exact ⟨h, by simp [h]⟩
        · exact fun h => h.1
      · simp [Array.getD_eq_getD_getElem?, hi] at hl
      · cases hq : ρ k with
        | none => rfl
        | some p => have := hH.rep.dom k p hq; omega
  | rangeF vf ps va vb iha ihb =>
    intro c hc Q sl M h ds ρ a w hH hS
    cases c <;> simp only [cCode] at hc <;> (try (repeat' split at hc)) <;> cases hc
    rename_i f ps' asg body _ _ _ _ hps hf hva hvb
    simp only [W] at h
    split at h
    case h_2 => exact h.elim
    rename_i ht
    have hrn := htop ht
    subst hrn
    obtain ⟨sl1, h, hsub⟩ := trimW_spec _ _ h
    split at h
    case h_2 => exact h.elim
    rename_i g caps he
    rw [forceN_eq, forceM_eq, forceN_eq, hP, hG] at h
    have hS1 := hS.sub hsub
    obtain ⟨cv, hcv, hcaps⟩ : ∃ vs, a.eval f = .func (.func g) #[] vs ∧ capsIs ρ caps vs.toList := env_is hS1 hf he
    exact rangeF_sound hf hps hva hvb hcn hG hH hS1 hcv hcaps h
/-! a function -/
theorem resW_run (hS : SlotsOk ρ n ds (look sl) a) (hR : Rep ρ M w) : ∀ (rs : List ResultVar) (vr : List VRes) (K : List PV → Prop), cRes P rs = some vr → resW sl M vr K →
    ∃ l us, (rs.mapM fun | .tmp t => pure (a.tmps.getD t undef) | .cell x t => do loadVar t (← asAddr (a.tmps.getD x undef)) : Sem (List Value)).run P w = .ok us w ∧ isPL ρ l us ∧ K l
  | [], vr, K, hc, h => by
    cases hc
    exact ⟨[], [], rfl, rfl, h⟩
  | .tmp t :: rs, vr, K, hc, h => by
    simp only [cRes] at hc
    split at hc
    · rename_i l hl
      cases hc
      simp only [resW] at h
      split at h
      · rename_i x hx
        obtain ⟨u, hu, hI⟩ := hS.ok t _ hx
        obtain ⟨l', us, h1, h2, h3⟩ := resW_run hS hR rs l _ hl h
        refine ⟨x :: l', u :: us, ?_, ⟨u, us, rfl, hI, h2⟩, h3⟩
        have : a.tmps.getD t undef = u := by simp [Array.getD_eq_getD_getElem?, hu]
        simp only [List.mapM_cons, Sem.run_bind, Sem.run_pure, Result.andThen_ok, this, h1]
      · exact h.elim
    · cases hc
  | .cell t ty :: rs, vr, K, hc, h => by
    simp only [cRes] at hc
    split at hc
    · rename_i ag l hag hl
      cases hc
      cases ag with
      | none =>
        simp only [resW] at h
        split at h
        · rename_i b off hx
          split at h
          · rename_i r1 r2 row hrow
            obtain ⟨s, hs, h⟩ := h
            rw [SV.force_eq] at h
            obtain ⟨u, hu, p, hp, hv⟩ := hS.ok t _ hx
            obtain ⟨q, hq, hr⟩ := hR.rows b (by rw [hrow]; rfl)
            rw [hp] at hq; cases hq
            rw [hrow] at hr
            obtain ⟨v, hv1, hcell⟩ := hr.2.1 off s hs
            obtain ⟨l', us, h1, h2, h3⟩ := resW_run hS hR rs l _ hl h
            refine ⟨.o s :: l', v :: us, ?_, ⟨v, us, rfl, hv1, h2⟩, h3⟩
            have : a.tmps.getD t undef = u := by simp [Array.getD_eq_getD_getElem?, hu]
            have h5 : (loadVar ty ⟨p.blk, p.base + off, none⟩).run P w = .ok v w := by
              simp only [Sem.run_bind, Sem.run_pure, Result.andThen_ok, loadVar, (aggT_none (w := w) hag).1, Bool.false_eq_true, if_false, Sem.run_ite, run_load, hcell]
            have h6 : (asAddr (.pointer (some ⟨p.blk, p.base + off, none⟩))).run P w = .ok ⟨p.blk, p.base + off, none⟩ w := rfl
            simp only [List.mapM_cons, Sem.run_bind, this, hv, h6, Sem.run_pure, Result.andThen_ok, h5, h1]
          · exact h.elim
        · exact h.elim
      | some k =>
        simp only [resW] at h
        split at h
        · rename_i b off hx
          split at h
          · rename_i r1 r2 row hrow
            obtain ⟨c, hcc, h⟩ := h
            rw [forceL_eq] at h
            obtain ⟨u, hu, p, hp, hv⟩ := hS.ok t _ hx
            obtain ⟨vs, hL, hlen, hcell⟩ := cells_vals hR hp hrow hcc
            obtain ⟨d, hud, hd, hi⟩ := aggT_some hag
            obtain ⟨l', us, h1, h2, h3⟩ := resW_run hS hR rs l _ hl h
            refine ⟨.a c :: l', .agg vs.toArray :: us, ?_, ⟨_, us, rfl, ⟨_, rfl, by simpa using hL⟩, h2⟩, h3⟩
            have e : a.tmps.getD t undef = u := by simp [Array.getD_eq_getD_getElem?, hu]
            have hl := run_loadVar_mid w p.blk (p.base + off) ty vs d hcell hud hd (by rw [hi, hlen])
            have h6 : (asAddr (.pointer (some ⟨p.blk, p.base + off, none⟩))).run P w = .ok ⟨p.blk, p.base + off, none⟩ w := rfl
            simp only [List.mapM_cons, Sem.run_bind, e, hv, h6, Sem.run_pure, Result.andThen_ok, hl, h1]
          · exact h.elim
        · exact h.elim
    · cases hc
theorem oneV_is {l : List PV} {us : List Value} (h : isPL ρ l us) : (oneV l).Is ρ (if h : us.toArray.size = 1 then us.toArray[0] else .tuple us.toArray) := by
  cases l with
  | nil => simp only [isPL] at h; subst h; exact ⟨#[], by simp, rfl⟩
  | cons x l =>
    obtain ⟨v, r, rfl, h2, h3⟩ := h
    cases l with
    | nil => simp only [isPL] at h3; subst h3; exact h2
    | cons y l =>
      obtain ⟨v', r', rfl, h4, h5⟩ := h3
      refine ⟨(v :: v' :: r').toArray, by simp, v, v' :: r', by simp, h2, v', r', rfl, h4, h5⟩
theorem look_slots0 : ∀ (l : List PV) (k t : Nat), look (slots0 k l) t = if k ≤ t then (l[t - k]?).map V.p else none
  | [], k, t => by simp [slots0, look]
  | x :: l, k, t => by
    simp only [slots0]
    rw [look_cons, look_slots0 l (k + 1) t]
    by_cases h : k = t
    · subst h; simp
    · rw [if_neg h]
      by_cases h2 : k ≤ t
      · rw [if_pos (by omega), if_pos h2, show t - k = (t - (k + 1)) + 1 by omega, List.getElem?_cons_succ]
      · rw [if_neg (by omega), if_neg h2]
/-- The blocks for deferred calls are shut: nothing was deferred. -/
theorem Rep.shut {r : Nat} {o : Obj} (h : Rep ρ M w) (hr : w.heap[r]? = some (.deferred (some []))) (hno : ¬ Owned ρ M w r) :
    Rep ρ M (w.putObj r o) ∧ ∀ b p k, (rowAt M b).live = true → ρ b = some p → (rowAt M b).cov (w.putObj r o) p k → (rowAt M b).cov w p k := by
  have hsz : (w.putObj r o).heap.size = w.heap.size := by simp [World.putObj]
  have key : ∀ b p, (rowAt M b).live = true → ρ b = some p → RowOk ρ (w.putObj r o) p (rowAt M b) ∧ ∀ k, (rowAt M b).cov (w.putObj r o) p k → (rowAt M b).cov w p k := fun b p hl hp => by
    obtain ⟨q, hq, hok⟩ := h.rows b hl
    rw [hp] at hq; cases hq
    by_cases hrw : (rowAt M b).rw = true
    · exact hok.keep' (fun _ _ x => x) (by omega) fun k hk => World.putObj_heap_other fun e => hno ⟨b, p, hrw, hp, by rw [← e]; exact hk⟩
    · cases hrow : rowAt M b with
      | row rw_ sym l =>
        rw [hrow] at hrw hok
        have : rw_ = false := by simpa [Row.rw] using hrw
        subst this
        obtain ⟨h1, h2, h3, h4⟩ := hok
        refine ⟨⟨by omega, fun i s hi => ?_, h3, fun e => by cases e⟩, fun _ h => h⟩
        obtain ⟨v, hv, hc⟩ := h2 i s hi
        refine ⟨v, hv, ?_⟩
        have hne : p.blk ≠ r := fun e => by rw [World.cell?, e, hr] at hc; cases hc
        rw [← hc]
        exact cell_of_heap (World.putObj_heap_other hne)
      | dead => rw [hrow] at hl; cases hl
      | _ => rw [hrow] at hrw; exact absurd rfl hrw
  exact ⟨⟨h.dom, fun b hl => by obtain ⟨p, hp, _⟩ := h.rows b hl; exact ⟨p, hp, (key b p hl hp).1⟩,
    fun b c p q k hne hb hc hp hq hk hk' => h.apart b c p q k hne hb hc hp hq ((key b p (rw_live hb) hp).2 k hk) ((key c q hc hq).2 k hk')⟩, fun b p k hl hp => (key b p hl hp).2 k⟩
theorem Ev.shut {r : Nat} {o : Obj} (hE : Ev ρ0 M0 w0 ρ M w) (h : Rep ρ M w) (hr : w.heap[r]? = some (.deferred (some []))) (hno : ¬ Owned ρ M w r) (h0 : w0.heap.size ≤ r) : Ev ρ0 M0 w0 ρ M (w.putObj r o) := by
  obtain ⟨g1, g2⟩ := h.shut (o := o) hr hno
  exact ⟨hE.ext, hE.os, hE.tape, hE.output, by have := hE.size; simpa [World.putObj] using this, fun k hk hn => by rw [World.putObj_heap_other (by omega)]; exact hE.frame k hk hn,
    fun k ⟨b, p, h1, h2, h3⟩ => hE.owned k ⟨b, p, h1, h2, g2 b p k (rw_live h1) h2 h3⟩, fun b p k hl hp hk => hE.fresh b p k hl hp (g2 b p k hl hp hk)⟩
theorem leaves_marks {fn : Func} {tmps : Array Value} {R : Ending → World → Prop} : ∀ (ds : List Deferred) (w : World), Marks ρ M w w0.heap.size ds → Rep ρ M w → Ev ρ0 M0 w0 ρ M w →
    (∀ w', Rep ρ M w' → Ev ρ0 M0 w0 ρ M w' → ∃ v, (results fn tmps).run P w' = .ok v w' ∧ R (.returned v) w') → LeavesInM Fence.wide 0 P fn tmps R ds .returning w
  | [], w, _, hR, hE, h => h w hR hE
  | d :: ds, w, ⟨⟨r, h1, h2, h3, h4, h5, h6⟩, hm⟩, hR, hE, h => by
    subst h1
    refine ⟨by simp, .inl ⟨r, _, rfl, run_takeDeferred h4, ?_⟩⟩
    obtain ⟨g1, g2⟩ := hR.shut (o := .deferred none) h4 h5
    refine leaves_marks ds _ ?_ g1 (hE.shut hR h4 h5 h2) h
    have : ∀ (l : List Deferred), (∀ d' ∈ l, d' ≠ { target := .collected r, args := #[] }) → Marks ρ M w w0.heap.size l → Marks ρ M (w.putObj r (.deferred none)) w0.heap.size l := by
      intro l
      induction l with
      | nil => intro _ _; trivial
      | cons d l ih =>
        rintro hd ⟨⟨r', k1, k2, k3, k4, k5, k6⟩, k⟩
        refine ⟨⟨r', k1, k2, by simpa [World.putObj] using k3, ?_, fun ⟨b, p, j1, j2, j3⟩ => k5 ⟨b, p, j1, j2, g2 b p r' (rw_live j1) j2 j3⟩, k6⟩, ih (fun d' h' => hd d' (.tail _ h')) k⟩
        rw [World.putObj_heap_other (fun e => hd d (.head _) (by rw [k1, e]))]
        exact k4
    exact this ds h6 hm
theorem endW_run {m : Nat} {v : V} {u : Value} {R : V → List Row → Prop} (hm : m = lenR M0) (h0 : ∀ b p, ρ0 b = some p → b < lenR M0) (hH : Hist G ρ0 M0 w0 ds ρ M w) (hv : v.Is ρ u) (h : endW m v M R) :
    ∃ v' M' ρ', R v' M' ∧ v'.Is ρ' u ∧ Rep ρ' M' w ∧ Ev ρ0 M0 w0 ρ' M' w ∧ ∀ b, b < lenR M0 → ρ' b = ρ0 b := by
  unfold endW at h
  rw [forceNL_eq] at h
  obtain ⟨hok, h⟩ := h
  rw [V.force_eq, forceM_eq] at h
  obtain ⟨r, hr⟩ := reach_prefix M fuel (idsRows M (range0 0 m) ++ v.ids) (range0 0 m)
  generalize reach M fuel (idsRows M (range0 0 m) ++ v.ids) (range0 0 m) = ids at *
  obtain ⟨k1, k2, k3⟩ := okIds_iff hok
  have hg := hH.gc (r := r) (by rw [hr, hm]) k2 k3 h0
  exact ⟨_, _, _, h.out, hv.ren (fun b hb p hp => by rw [into_idx (k1 b (List.mem_append.2 (.inr hb)))]; exact hp), hg.rep, hg.ev, hg.same⟩
theorem isPL_length : ∀ {l : List PV} {vs : List Value}, isPL ρ l vs → vs.length = l.length
  | [], vs, h => by simp only [isPL] at h; subst h; rfl
  | x :: l, vs, ⟨v, r, h1, _, h3⟩ => by subst h1; simp [isPL_length h3]
theorem can_of_W (hk : Known Try.prog eqsT) (hmix : Try.prog.follows .mixedOrders = true) {f : FuncId} {fn : Func} {vf : VFn} {keep : List Nat} {args : List PV} {R : V → List Row → Prop} (hf : Try.prog.funcs[f]? = some fn) (hn : (fn.name == "runtime.NumGoroutine") = false)
    (hc : cFn Try.prog eqsT newsT keep fn = some vf) (hargs : args.length ≤ vf.n) (h : FnW G Try.prog vf args M R) : Can G Try.prog f args M R := by
  unfold cFn at hc
  split at hc
  · rename_i c hb
    split at hc
    · rename_i vc rs hcc hrs
      cases hc
      refine ⟨⟨fn, hf, hn, by rw [hb]; rfl⟩, fun ρ w vs hR hL hvs => ?_⟩
      unfold FnW at h
      rw [forceN_eq] at h
      have hvl : vs.length = args.length := isPL_length hvs
      have hargs' : args.length ≤ fn.ntmps := hargs
      have hS : SlotsOk ρ fn.ntmps [] (look (slots0 0 args)) { tmps := vs.toArray ++ Array.replicate (fn.ntmps - vs.toArray.size) undef, defers := [] } := by
        refine ⟨by simp only [Array.size_append, Array.size_replicate, List.size_toArray]; omega, rfl, fun t v hv => ?_⟩
        rw [look_slots0, if_pos (Nat.zero_le _), Nat.sub_zero] at hv
        simp only [Option.map_eq_some_iff] at hv
        obtain ⟨x, hx, rfl⟩ := hv
        obtain ⟨u, hu, hI⟩ := nth_isPL hvs hx
        have hlt : t < vs.length := (List.getElem?_eq_some_iff.1 hu).1
        exact ⟨u, by rw [Array.getElem?_append_left (by simpa using hlt)]; simpa using hu, hI⟩
      have hH : Hist G ρ M w [] ρ M w := ⟨hR, hL, trivial, Ev.refl _ _ _, fun _ _ => rfl, Nat.le_refl _⟩
      have hW := W_sound (ρ0 := ρ) (M0 := M) (w0 := w) (n := fn.ntmps) (r := none) hk hmix (cx := ⟨G, Try.prog, lenR M, keep, fn.ntmps, true⟩) rfl rfl rfl (fun _ => rfl) rfl hR.dom vc c hcc _ _ _ h [] ρ _ w hH hS
      refine callsIn_wide.1 (callsIn_of_wp_marks (F := Fence.wide) (n := 0) hf hb trivial (wpIn_mono hW ?_))
      rintro e a' w' ⟨ex, sl', M', ρ', ds', rfl, hQ, hH', hS'⟩
      have fin : (resW sl' M' rs fun l => endW (lenR M) (oneV l) M' R) → LeavesInM Fence.wide 0 Try.prog fn a'.tmps (fun e w' => ∃ u v M' ρ', e = .returned u ∧ R v M' ∧ v.Is ρ' u ∧ Rep ρ' M' w' ∧ Ev ρ M w ρ' M' w' ∧ ∀ b, b < lenR M → ρ' b = ρ b) a'.defers .returning w' := fun hq => by
        rw [hS'.defers]
        refine leaves_marks ds' w' hH'.marks hH'.rep hH'.ev fun w2 hR2 hE2 => ?_
        obtain ⟨l, us, h1, h2, h3⟩ := resW_run hS' hR2 _ _ _ hrs hq
        have hL2 : Low G ρ' M' w2 := hL.ev hE2
        obtain ⟨v', M2, ρ2, g1, g2, g3, g4, g5⟩ := endW_run (ρ0 := ρ) (M0 := M) (w0 := w) (ds := []) rfl hR.dom ⟨hR2, hL2, trivial, hE2, hH'.same, hH'.len⟩ (oneV_is h2) h3
        refine ⟨_, ?_, _, v', M2, ρ2, rfl, g1, g2, g3, g4, g5⟩
        unfold results
        have hm : (fn.results.mapM fun | .tmp t => pure (a'.tmps.getD t undef) | .cell x t => do loadVar t (← asAddr (a'.tmps.getD x undef)) : Sem (Array Value)).run Try.prog w2 = .ok us.toArray w2 := by
          rw [Array.mapM_eq_mapM_toList]
          refine (Sem.run_map ..).trans ?_
          rw [h1]; rfl
        refine (Sem.run_bind ..).trans ((congrArg (fun r => Result.andThen r _) hm).trans ?_)
        simp only [Result.andThen_ok, Sem.run_pure]
      cases ex with
      | normal => exact fin hQ
      | ret => exact fin hQ
      | exit id => exact hQ.elim
      | goto l => exact hQ.elim
    · cases hc
  · cases hc
/-! a round -/
theorem bind_ok : ∀ (ts : List Nat) (vs : List PV) (us : List Value) (sl : Slots) (tmps : Array Value), ts.length = vs.length → isPL ρ vs us → (∀ t ∈ ts, t < n) → tmps.size = n → (∀ t v, look sl t = some v → ∃ u, tmps[t]? = some u ∧ v.Is ρ u) →
    ((ts.zip us).foldl (fun tmps (t, a) => tmps.setIfInBounds t a) tmps).size = n ∧ ∀ t v, look (bindS ts vs sl) t = some v → ∃ u, ((ts.zip us).foldl (fun tmps (t, a) => tmps.setIfInBounds t a) tmps)[t]? = some u ∧ v.Is ρ u
  | [], [], us, sl, tmps, _, hv, _, hz, h => ⟨by simpa using hz, by simpa [bindS] using h⟩
  | t :: ts, v :: vs, us, sl, tmps, hl, ⟨u, r, h1, h2, h3⟩, hlt, hz, h => by
    subst h1
    simp only [List.zip_cons_cons, List.foldl_cons, bindS]
    refine bind_ok ts vs r _ _ (by simpa using hl) h3 (fun x hx => hlt x (.tail _ hx)) (by simpa using hz) fun x y hy => ?_
    rw [look_cons] at hy
    by_cases e : t = x
    · subst e
      rw [if_pos rfl] at hy; cases hy
      exact ⟨u, by rw [Array.getElem?_setIfInBounds, if_pos rfl, if_pos (by rw [hz]; exact hlt t (.head _))], h2⟩
    · rw [if_neg e] at hy
      obtain ⟨u', g1, g2⟩ := h x y hy
      exact ⟨u', by rw [Array.getElem?_setIfInBounds_ne e]; exact g1, g2⟩
  | [], _ :: _, _, _, _, hl, _, _, _, _ => by simp at hl
  | _ :: _, [], _, _, _, hl, _, _, _, _ => by simp at hl
theorem LoopIs.busy {L : Go.Loop} {sl : Slots} {ps : List Nat} {va vb : VCode} {st : LS} (h : LoopIs ρ L n sl ps va vb st) : LoopIs ρ { L with state := .busy } n sl ps va vb .busy := ⟨h.size, h.slots, h.params, h.lt, h.asg, h.body, rfl⟩
theorem ycan_of_W (hk : Known Try.prog eqsT) (hmix : Try.prog.follows .mixedOrders = true) {args : List PV} {R : V → List Row → Prop} (h : RndW G Try.prog args M R) : YCan G Try.prog args M R := by
  unfold RndW at h
  split at h
  case h_2 => exact h.elim
  rename_i b rest
  split at h
  case h_2 => exact h.elim
  rename_i n keep sl ps va vb hrow
  obtain ⟨hlen, h⟩ := h
  rw [forceN_eq] at h
  refine ⟨fun ρ w vs hR hL hv => ?_⟩
  obtain ⟨v0, us, rfl, ⟨p, hp, rfl⟩, hus⟩ := hv
  obtain ⟨q, hq, hr⟩ := hR.rows b (by rw [hrow]; rfl)
  rw [hp] at hq; cases hq
  rw [hrow] at hr
  obtain ⟨_, L, hL1, hI⟩ := hr
  have hul : us.length = ps.length := by rw [isPL_length hus, hlen]
  have hpl : L.params.size = ps.length := by rw [← hI.params]; simp
  refine ⟨p.blk, us, L, rfl, hL1, by omega, ?_⟩
  obtain ⟨s1, s2⟩ := bind_ok (ρ := ρ) (n := n) ps rest us sl L.tmps hlen hus hI.lt hI.size hI.slots
  have ez : (L.params.zip us.toArray).foldl (fun tmps (x : Nat × Value) => tmps.setIfInBounds x.1 x.2) L.tmps = (ps.zip us).foldl (fun tmps (x : Nat × Value) => tmps.setIfInBounds x.1 x.2) L.tmps := by
    rw [← Array.foldl_toList, Array.toList_zip, hI.params]
  have hS : SlotsOk ρ n [] (look (bindS ps rest sl)) { tmps := (L.params.zip us.toArray).foldl (fun tmps (x : Nat × Value) => tmps.setIfInBounds x.1 x.2) L.tmps, defers := [] } := by
    rw [ez]; exact ⟨s1, rfl, s2⟩
  have hH : Hist G ρ M w [] ρ M w := ⟨hR, hL, trivial, Ev.refl _ _ _, fun _ _ => rfl, Nat.le_refl _⟩
  have hbM : b < lenR M := live_lt (by rw [hrow]; rfl)
  refine roundIn_of_wpIn (F := Fence.wide) trivial ?_
  have hW := W_sound (ρ0 := ρ) (M0 := M) (w0 := w) (n := n) (r := some p.blk) hk hmix (cx := ⟨G, Try.prog, lenR M, keep, n, false⟩) rfl rfl rfl (fun e => by cases e) rfl hR.dom va L.assign hI.asg _ _ _ h [] ρ _ w hH hS
  refine wpIn_mono hW ?_
  rintro e a1 w1 ⟨ex, sl1, M1, ρ1, ds1, rfl, hQ, hH1, hS1⟩
  cases ex with
  | exit id => exact hQ.elim
  | goto l => exact hQ.elim
  | ret => exact hQ.elim
  | normal =>
    have hQ : busyW M1 b fun M => W ⟨G, Try.prog, lenR _, keep, n, false⟩ vb (rndEnd (lenR _) b R) sl1 M := hQ
    unfold busyW at hQ
    split at hQ
    case h_2 => exact hQ.elim
    rename_i n1 keep1 sl2 ps1 va1 vb1 hrow1
    rw [forceM_eq] at hQ
    have hp1 : ρ1 b = some p := by rw [hH1.same b hbM]; exact hp
    obtain ⟨q, hq, hr⟩ := hH1.rep.rows b (by rw [hrow1]; rfl)
    rw [hp1] at hq; cases hq
    rw [hrow1] at hr
    obtain ⟨hb0, L1, hL2, hI1⟩ := hr
    have hl1 := lt_of_heap hL2
    obtain ⟨hR2, hE2⟩ := set_obj (r := .loop n1 keep1 sl2 ps1 va1 vb1 .busy) (w' := w1.putObj p.blk (.loop { L1 with state := .busy })) hH1.rep (by rw [hrow1]; rfl) hp1 (by rw [hrow1]; rfl) (by simp [World.putObj]) (fun k hk => World.putObj_heap_other hk) rfl rfl rfl
      ⟨hb0, _, World.putObj_heap_same hl1, hI1.busy⟩ (fun k hk => hk)
    refine ⟨_, run_beginRound hL2 hI1.pend.1, ?_⟩
    have hH2 : Hist G ρ M w ds1 ρ1 (setRow M1 b (.loop n1 keep1 sl2 ps1 va1 vb1 .busy)) (w1.putObj p.blk (.loop { L1 with state := .busy })) :=
      ⟨hR2, hH1.low.ev hE2, hH1.marks.ev hE2, hH1.ev.trans hE2, hH1.same, by rw [lenR_setRow]; exact hH1.len⟩
    have hW2 := W_sound (ρ0 := ρ) (M0 := M) (w0 := w) (n := n) (r := some p.blk) hk hmix (cx := ⟨G, Try.prog, lenR M, keep, n, false⟩) rfl rfl rfl (fun e => by cases e) rfl hR.dom vb L.body hI.body _ _ _ hQ ds1 ρ1 a1 _ hH2 hS1
    refine wpIn_mono hW2 ?_
    rintro e a2 w2 ⟨ex, sl3, M3, ρ3, ds3, rfl, hQ3, hH3, hS3⟩
    have fin : ∀ (st : LS) (jump : Option Code), (∀ (L3 : Go.Loop) sl ps va vb n, LoopIs ρ3 L3 n sl ps va vb .busy → LoopIs ρ3 { L3 with state := if jump.isNone then .ready else .done, pending := jump } n sl ps va vb st) → doneW M3 b st (fun M' => endW (lenR M) (vB jump.isNone) M' R) →
        ∃ v w', (Instr.endRound p.blk jump).run Try.prog w2 = .ok v w' ∧ ∃ u v' M' ρ', Ending.returned v = .returned u ∧ R v' M' ∧ v'.Is ρ' u ∧ Rep ρ' M' w' ∧ Ev ρ M w ρ' M' w' ∧ ∀ b, b < lenR M → ρ' b = ρ b := fun st jump hst hd => by
      unfold doneW at hd
      split at hd
      case h_2 => exact hd.elim
      rename_i n3 keep3 sl4 ps3 va3 vb3 hrow3
      rw [forceM_eq] at hd
      have hp3 : ρ3 b = some p := by rw [hH3.same b hbM]; exact hp
      obtain ⟨q, hq, hr⟩ := hH3.rep.rows b (by rw [hrow3]; rfl)
      rw [hp3] at hq; cases hq
      rw [hrow3] at hr
      obtain ⟨hb3, L3, hL3, hI3⟩ := hr
      obtain ⟨hR4, hE4⟩ := set_obj (r := .loop n3 keep3 sl4 ps3 va3 vb3 st) (w' := w2.putObj p.blk (.loop { L3 with state := if jump.isNone then .ready else .done, pending := jump })) hH3.rep (by rw [hrow3]; rfl) hp3 (by rw [hrow3]; rfl) (by simp [World.putObj]) (fun k hk => World.putObj_heap_other hk) rfl rfl rfl
        ⟨hb3, _, World.putObj_heap_same (lt_of_heap hL3), hst L3 _ _ _ _ _ hI3⟩ (fun k hk => hk)
      refine ⟨.bool jump.isNone, _, run_endRound jump hL3, .bool jump.isNone, ?_⟩
      obtain ⟨v', M', ρ', g1, g2, g3, g4, g5⟩ := endW_run (v := vB jump.isNone) (u := .bool jump.isNone) (ρ0 := ρ) (M0 := M) (w0 := w) (ds := []) rfl hR.dom ⟨hR4, hH3.low.ev hE4, trivial, hH3.ev.trans hE4, hH3.same, by rw [lenR_setRow]; exact hH3.len⟩ rfl hd
      exact ⟨v', M', ρ', rfl, g1, g2, g3, g4, g5⟩
    cases ex with
    | normal => exact fin .ready none (fun L3 sl ps va vb n h => ⟨h.size, h.slots, h.params, h.lt, h.asg, h.body, ⟨rfl, rfl⟩⟩) hQ3
    | exit id => exact fin (.done (.exit id)) (some (.exit id)) (fun L3 sl ps va vb n h => ⟨h.size, h.slots, h.params, h.lt, h.asg, h.body, ⟨_, rfl, rfl, rfl⟩⟩) hQ3
    | goto l => exact fin (.done (.goto l)) (some (.goto l)) (fun L3 sl ps va vb n h => ⟨h.size, h.slots, h.params, h.lt, h.asg, h.body, ⟨_, rfl, rfl, rfl⟩⟩) hQ3
    | ret => exact fin (.done .ret) (some .ret) (fun L3 sl ps va vb n h => ⟨h.size, h.slots, h.params, h.lt, h.asg, h.body, ⟨_, rfl, rfl, rfl⟩⟩) hQ3
end Go.Proofs.Ytmdfkggflainbaa.VM
