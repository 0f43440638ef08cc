/- The evaluator: code, and a function. -/
import Derived.Test.YtnmeeafnobfobaaVmP
import Derived.ScopeJumps
namespace Go.Proofs.Ytnmeeafnobfobaa.VM
open Go.RowKit
set_option linter.unusedVariables false
set_option linter.unusedSimpArgs false
variable {P : Program} {eqs : List Nat} {news : FuncId → Nat} {ρ : PMap} {M : List Row} {w : World} {a : Act} {n base : Nat} {sl : Slots}
variable {ρ0 : PMap} {M0 : List Row} {w0 : World}
theorem trimW_spec : ∀ (ts : List Nat) (K : Slots → Prop), trimW sl ts K → ∃ sl', K sl' ∧ ∀ t v, look sl' t = some v → look sl t = some v
  | [], K, h => ⟨[], h, fun t v h => by cases h⟩
  | t :: ts, K, h => by
    simp only [trimW] at h
    split at h
    · rename_i v hv
      obtain ⟨r, h1, h2⟩ := trimW_spec ts _ h
      refine ⟨(t, v) :: r, h1, fun k u hk => ?_⟩
      rw [look_cons] at hk
      split at hk
      · rename_i e; subst e; cases hk; exact hv
      · exact h2 k u hk
    · exact trimW_spec ts _ h
theorem lenR_appR : ∀ (l m : List Row), lenR (appR l m) = lenR l + lenR m
  | [], m => by simp [appR, lenR]
  | r :: l, m => by simp only [appR, lenR, lenR_appR l m]; omega
theorem rowAt_appR : ∀ (l m : List Row) (b : Nat), rowAt (appR l m) b = if b < lenR l then rowAt l b else rowAt m (b - lenR l)
  | [], m, b => by simp [appR, lenR]
  | r :: l, m, 0 => by simp [appR, rowAt, lenR]
  | r :: l, m, b + 1 => by
    simp only [appR, rowAt]
    rw [rowAt_appR l m b]
    by_cases h : b < lenR l
    · rw [if_pos h, if_pos (show b + 1 < lenR (r :: l) by simp only [lenR]; omega)]
    · rw [if_neg h, if_neg (show ¬ b + 1 < lenR (r :: l) by simp only [lenR]; omega)]; congr 1; simp only [lenR]; omega
theorem lenR_deads : ∀ k, lenR (deads k) = k
  | 0 => rfl
  | k + 1 => by simp [deads, lenR, lenR_deads k]
theorem rowAt_deads : ∀ k b, rowAt (deads k) b = .dead
  | 0, _ => rfl
  | k + 1, 0 => rfl
  | k + 1, b + 1 => by simp only [deads, rowAt]; exact rowAt_deads k b
theorem rowAt_more (M : List Row) (k b : Nat) : rowAt (appR M (deads k)) b = rowAt M b := by
  rw [rowAt_appR]
  split
  · rfl
  · rw [rowAt_deads, rowAt_ge (by omega)]
theorem Hist.more (h : Hist ρ0 M0 w0 ρ M w) (k : Nat) : Hist ρ0 M0 w0 ρ (appR M (deads k)) w where
  rep := ⟨fun b p hb => by rw [lenR_appR]; have := h.rep.dom b p hb; omega, fun b hl => by rw [rowAt_more] at hl ⊢; exact h.rep.rows b hl, fun b c p q hne hb hc => by rw [rowAt_more] at hb hc; exact h.rep.apart b c p q hne hb hc⟩
  ev := ⟨h.ev.ext, h.ev.os, h.ev.tape, h.ev.output, h.ev.size, h.ev.frame, fun k ⟨b, p, hb, hp, hk⟩ => h.ev.owned k ⟨b, p, by rwa [rowAt_more] at hb, hp, hk⟩, fun b p hl hp => h.ev.fresh b p (by rwa [rowAt_more] at hl) hp⟩
  same := h.same
  len := by rw [lenR_appR]; have := h.len; omega
/-! the state anew -/
theorem reach_prefix (M : List Row) : ∀ (f : Nat) (todo seen : List Nat), ∃ r, reach M f todo seen = seen ++ r
  | 0, _, seen => ⟨[], by simp [reach]⟩
  | f + 1, [], seen => ⟨[], by simp [reach]⟩
  | f + 1, b :: todo, seen => by
    simp only [reach]
    split
    · exact reach_prefix M f _ _
    · obtain ⟨r, h⟩ := reach_prefix M f ((rowAt M b).ids ++ todo) (seen ++ [b])
      exact ⟨b :: r, by rw [h]; simp⟩
theorem lenI_append : ∀ (l m : List Nat), lenI (l ++ m) = lenI l + lenI m
  | [], m => by simp [lenI]
  | x :: l, m => by simp only [List.cons_append, lenI, lenI_append l m]; omega
theorem lenI_range0 : ∀ k s, lenI (range0 s k) = k
  | 0, _ => rfl
  | k + 1, s => by simp [range0, lenI, lenI_range0 k]
theorem back_append (x : Nat) : ∀ (l m : List Nat) (k : Nat), k < lenI l → back (l ++ m) x k = back l x k
  | [], m, k, h => by simp [lenI] at h
  | c :: l, m, 0, _ => rfl
  | c :: l, m, k + 1, h => by simp only [List.cons_append, back]; exact back_append x l m k (by simp only [lenI] at h; omega)
theorem back_range0 (x : Nat) : ∀ (m s k : Nat), k < m → back (range0 s m) x k = s + k
  | 0, _, _, h => by omega
  | m + 1, s, 0, _ => rfl
  | m + 1, s, k + 1, h => by simp only [range0, back]; rw [back_range0 x m (s + 1) k (by omega)]; omega
theorem Hist.gc {ids r : List Nat} (h : Hist ρ0 M0 w0 ρ M w) (hids : ids = range0 0 (lenR M0) ++ r) (hc : ∀ b ∈ ids, ∀ c ∈ (rowAt M b).ids, c ∈ ids) (hd : ids.Nodup) (h0 : ∀ b p, ρ0 b = some p → b < lenR M0) :
    Hist ρ0 M0 w0 (into ρ ids) (rowsAt M (fun b => idx b ids) ids) w := by
  have hfirst : ∀ k, k < lenR M0 → k < lenI ids ∧ back ids 0 k = k := fun k hk => by
    subst hids
    rw [lenI_append, lenI_range0]
    refine ⟨by omega, ?_⟩
    rw [back_append 0 _ _ _ (by rw [lenI_range0]; exact hk), back_range0 0 _ _ _ hk]; omega
  have hsame : ∀ b, b < lenR M0 → into ρ ids b = ρ0 b := fun b hb => by
    rw [into_lt (hfirst b hb).1, (hfirst b hb).2, h.same b hb]
  refine ⟨h.rep.into hc hd, ⟨fun b p hb => by rw [hsame b (h0 b p hb)]; exact hb, h.ev.os, h.ev.tape, h.ev.output, h.ev.size, h.ev.frame, fun k hk => h.ev.owned k (owned_into hk), fun b p hl hp => ?_⟩, hsame, by rw [lenR_rowsAt]; subst hids; rw [lenI_append, lenI_range0]; omega⟩
  obtain ⟨g1, g2⟩ := into_some hp
  rw [rowAt_rowsAt M _ 0 g1, ren_live] at hl
  rcases h.ev.fresh _ p hl g2 with ⟨f1, f2⟩ | f | f
  · have hlt := h0 _ _ f2
    have e : back ids 0 b = b := by
      have h1 := idx_back 0 hd g1
      have h2 := hfirst _ hlt
      have h3 := idx_back 0 hd h2.1
      rw [h2.2] at h3
      rw [← h3, h1]
    rw [e] at f1 f2
    exact .inl ⟨f1, f2⟩
  · exact .inr (.inl f)
  · exact .inr (.inr f)
theorem look_renSl (g : Nat → Nat) : ∀ (sl : Slots) (t : Nat), look (renSl g sl) t = (look sl t).map (V.ren g)
  | [], t => rfl
  | (k, v) :: sl, t => by
    simp only [renSl]
    rw [look_cons, look_cons]
    split
    · rfl
    · exact look_renSl g sl t
theorem look_ids : ∀ {sl : Slots} {t : Nat} {v : V}, look sl t = some v → ∀ b ∈ v.ids, b ∈ idsSl sl
  | [], t, v, h, b, hb => by cases h
  | (k, u) :: sl, t, v, h, b, hb => by
    rw [look_cons] at h
    simp only [idsSl, List.mem_append]
    split at h
    · cases h; exact .inl hb
    · exact .inr (look_ids h b hb)
theorem gcW_spec {cx : Cx} {K : Slots → List Row → Prop} (hm : cx.m = lenR M0) (h0 : ∀ b p, ρ0 b = some p → b < lenR M0) (h : gcW cx sl M K) (hH : Hist ρ0 M0 w0 ρ M w) (hS : SlotsOk ρ n (look sl) a) :
    ∃ sl' M' ρ', K sl' M' ∧ Hist ρ0 M0 w0 ρ' M' w ∧ SlotsOk ρ' n (look sl') a := by
  unfold gcW at h
  obtain ⟨sl1, h, hsub⟩ := trimW_spec _ _ h
  rw [forceNL_eq] at h
  obtain ⟨hok, h⟩ := h
  rw [forceSl_eq, forceM_eq] at h
  obtain ⟨r, hr⟩ := reach_prefix M fuel (idsRows M (range0 0 cx.m) ++ idsSl sl1) (range0 0 cx.m)
  generalize reach M fuel (idsRows M (range0 0 cx.m) ++ idsSl sl1) (range0 0 cx.m) = ids at *
  obtain ⟨k1, k2, k3⟩ := okIds_iff hok
  have hS1 := hS.sub hsub
  refine ⟨_, _, into ρ ids, h, hH.gc (r := r) (by rw [hr, hm]) k2 k3 h0, hS1.size, hS1.defers, fun t v hv => ?_⟩
  rw [look_renSl] at hv
  simp only [Option.map_eq_some_iff] at hv
  obtain ⟨u, hu, rfl⟩ := hv
  obtain ⟨x, hx, hI⟩ := hS1.ok t u hu
  exact ⟨x, hx, hI.ren fun b hb p hp => by rw [into_idx (k1 b (List.mem_append.2 (.inr (look_ids hu b hb))))]; exact hp⟩
/-! code -/
def Ex.phys : Ex → Exit
  | .normal => .normal
  | .exit id => .exit id
  | .goto l => .goto l
  | .ret => .ret
def Fin (ρ0 : PMap) (M0 : List Row) (w0 : World) (n : Nat) (Q : Post) (e : Exit) (a : Act) (w : World) : Prop :=
  ∃ ex sl M ρ, e = ex.phys ∧ Q ex sl M ∧ Hist ρ0 M0 w0 ρ M w ∧ SlotsOk ρ n (look sl) a
theorem cCode_find : ∀ {c : Code} {vc : VCode} {l : Nat} {vr : VCode}, cCode P eqs news n c = some vc → vfind vc l = some vr → ∃ r, findLabel c l = some r ∧ cCode P eqs news n r = some vr := by
  intro c
  induction c with
  | seq x y ihx ihy =>
    intro vc l vr hc hv
    simp only [cCode] at hc
    split at hc
    · rename_i vx vy h1 h2
      cases hc
      simp only [vfind] at hv
      split at hv
      · rename_i r hr
        cases hv
        obtain ⟨r', g1, g2⟩ := ihx h1 hr
        exact ⟨.seq r' y, by simp [findLabel, g1], by simp [cCode, g2, h2]⟩
      · rename_i hr
        obtain ⟨r', g1, g2⟩ := ihy h2 hv
        refine ⟨r', ?_, g2⟩
        have : findLabel x l = none := by
          have key : ∀ (x : Code) (vx : VCode), cCode P eqs news n x = some vx → vfind vx l = none → findLabel x l = none := by
            intro x
            induction x with
            | seq p q ihp ihq =>
              intro vx hx hv
              simp only [cCode] at hx
              split at hx
              · rename_i vp vq k1 k2
                cases hx
                simp only [vfind] at hv
                split at hv
                · cases hv
                · rename_i k3
                  simp [findLabel, ihp _ k1 k3, ihq _ k2 hv]
              · cases hx
            | label k =>
              intro vx hx hv
              cases hx
              simp only [vfind] at hv
              split at hv
              · cases hv
              · rename_i k3
                have : (k == l) = false := by
                  cases hk : k == l with
                  | false => rfl
                  | true => rw [beq_iff_eq] at hk; rw [hk, Nat.beq_refl] at k3; cases k3
                simp only [findLabel, this]
                rfl
            | _ => intro vx hx hv; rfl
          exact key x vx h1 hr
        simp [findLabel, this, g1]
    · cases hc
  | label k =>
    intro vc l vr hc hv
    cases hc
    simp only [vfind] at hv
    split at hv
    · rename_i h
      cases hv
      exact ⟨.skip, by simp [findLabel, Nat.eq_of_beq_eq_true h], rfl⟩
    · cases hv
  | _ =>
    intro vc l vr hc hv
    simp only [cCode] at hc
    repeat' split at hc
    all_goals first | (cases hc; done) | (cases hc; simp [vfind] at hv)
/-- A loop, from the round's begin on. -/
def Round (P : Program) (c : Code) (Q : Exit → Act → World → Prop) (a : Act) (w : World) : Prop :=
  ∀ (b : Frame) (k : List Go.Item) (cs : List Frame), ∃ e a' w', Q e a' w' ∧ Arrives P (lone (b.at a (.code c :: .inLoop c :: k)) cs w) b k cs e a' w'
theorem round_of {c : Code} {Q : Exit → Act → World → Prop} (h : c.wp P (Exit.then (Round P c Q) Q) a w) : Round P c Q a w := fun b k cs => by
  obtain ⟨e, a₁, w₁, hq, harr⟩ := h b (.inLoop c :: k) cs
  cases e with
  | normal =>
    obtain ⟨e₂, a₂, w₂, hq₂, harr₂⟩ := hq b k cs
    exact ⟨e₂, a₂, w₂, hq₂, .of_steps (Steps.trans harr (.one step_inLoop)) harr₂⟩
  | exit id => exact ⟨_, a₁, w₁, hq, .pass (x := .inLoop c) rfl (fun _ _ => .inl (by simp)) harr⟩
  | goto l => exact ⟨_, a₁, w₁, hq, .pass (x := .inLoop c) rfl (fun _ _ => .inl (by simp)) harr⟩
  | ret => exact ⟨_, a₁, w₁, hq, .pass (x := .inLoop c) rfl (fun _ _ => .inl (by simp)) harr⟩
  | panic ch => exact ⟨_, a₁, w₁, hq, .pass (x := .inLoop c) rfl (fun _ _ => .inl (by simp)) harr⟩
  | outgrown => exact ⟨_, a₁, w₁, hq, .pass (x := .inLoop c) rfl (fun _ _ => .inl (by simp)) harr⟩
theorem loop_of_round {c : Code} {Q : Exit → Act → World → Prop} (h : Round P c Q a w) : (Code.loop c).wp P Q a w := fun b k cs => by
  obtain ⟨e, a', w', hq, harr⟩ := h b k cs
  exact ⟨e, a', w', hq, .of_steps (.one step_loop) harr⟩
/-- A scope, from the label on. -/
def Pass (P : Program) (c rest : Code) (Q : Exit → Act → World → Prop) (a : Act) (w : World) : Prop :=
  ∀ (b : Frame) (k : List Go.Item) (cs : List Frame), ∃ e a' w', Q e a' w' ∧ Arrives P (lone (b.at a (.code rest :: .inScope c :: k)) cs w) b k cs e a' w'
theorem scope_arr {c x rest : Code} {l : Nat} {Q : Exit → Act → World → Prop} (hf : findLabel c l = some rest) (h : x.wp P (Exit.jump l (Pass P c rest Q) Q) a w) (b : Frame) (k : List Go.Item) (cs : List Frame) :
    ∃ e a' w', Q e a' w' ∧ Arrives P (lone (b.at a (.code x :: .inScope c :: k)) cs w) b k cs e a' w' := by
  have hg : gotoIn l (.inScope c :: k) = some (.code rest :: .inScope c :: k) := by simp [gotoIn, hf]
  obtain ⟨e, a₁, w₁, hq, harr⟩ := h b (.inScope c :: k) cs
  cases e with
  | normal => exact ⟨.normal, a₁, w₁, hq, Steps.trans harr (.one step_inScope)⟩
  | exit id => exact ⟨.exit id, a₁, w₁, hq, fun k' hk => harr k' (by simp [exitTo, hk])⟩
  | goto l' =>
    obtain ⟨rfl, hJ'⟩ := hq
    obtain ⟨e₂, a₂, w₂, hq₂, harr₂⟩ := hJ' b k cs
    exact ⟨e₂, a₂, w₂, hq₂, .of_steps (harr _ hg) harr₂⟩
  | ret => exact ⟨_, a₁, w₁, hq, harr⟩
  | panic ch => exact ⟨_, a₁, w₁, hq, harr⟩
  | outgrown => exact ⟨_, a₁, w₁, hq, harr⟩
theorem scope_of {c rest : Code} {l : Nat} {Q : Exit → Act → World → Prop} (hf : findLabel c l = some rest) (h : c.wp P (Exit.jump l (Pass P c rest Q) Q) a w) : (Code.scope c).wp P Q a w := fun b k cs => by
  obtain ⟨e, a', w', hq, harr⟩ := scope_arr hf h b k cs
  exact ⟨e, a', w', hq, .of_steps (.one step_scope) harr⟩
theorem W_sound (hk : Known P eqs) (hmix : P.follows .mixedOrders = true) {cx : Cx} (hP : cx.P = P) (hm : cx.m = lenR M0) (h0 : ∀ b p, ρ0 b = some p → b < lenR M0) : ∀ (vc : VCode) (c : Code), cCode P eqs news n c = some vc →
    ∀ (Q : Post) (sl : Slots) (M : List Row), W cx vc Q sl M → ∀ (ρ : PMap) (a : Act) (w : World), Hist ρ0 M0 w0 ρ M w → SlotsOk ρ n (look sl) a → c.wp P (Fin ρ0 M0 w0 n Q) a w := by
  intro vc
  induction vc with
  | skip =>
    intro c hc Q sl M h ρ a w hH hS
    cases c <;> simp only [cCode] at hc <;> (try (repeat' split at hc)) <;> cases hc
    exact wp_skip ⟨.normal, sl, M, ρ, rfl, h, hH, hS⟩
  | label l =>
    intro c hc Q sl M h ρ a w hH hS
    cases c <;> simp only [cCode] at hc <;> (try (repeat' split at hc)) <;> cases hc
    exact wp_label ⟨.normal, sl, M, ρ, rfl, h, hH, hS⟩
  | exit id =>
    intro c hc Q sl M h ρ a w hH hS
    cases c <;> simp only [cCode] at hc <;> (try (repeat' split at hc)) <;> cases hc
    exact wp_exit ⟨.exit id, sl, M, ρ, rfl, h, hH, hS⟩
  | goto l =>
    intro c hc Q sl M h ρ a w hH hS
    cases c <;> simp only [cCode] at hc <;> (try (repeat' split at hc)) <;> cases hc
    exact wp_goto ⟨.goto l, sl, M, ρ, rfl, h, hH, hS⟩
  | ret =>
    intro c hc Q sl M h ρ a w hH hS
    cases c <;> simp only [cCode] at hc <;> (try (repeat' split at hc)) <;> cases hc
    exact wp_ret ⟨.ret, sl, M, ρ, rfl, h, hH, hS⟩
  | seq x y ihx ihy =>
    intro c hc Q sl M h ρ a w hH hS
    cases c <;> simp only [cCode] at hc <;> (try (repeat' split at hc)) <;> cases hc
    rename_i cx' cy h1 h2
    refine wp_seq (wp_mono (ihx _ h1 _ sl M h ρ a w hH hS) ?_)
    rintro e a' w' ⟨ex, sl', M', ρ', rfl, hQ, hH', hS'⟩
    cases ex with
    | normal => exact ihy _ h2 Q sl' M' hQ ρ' a' w' hH' hS'
    | exit id => exact ⟨.exit id, sl', M', ρ', rfl, hQ, hH', hS'⟩
    | goto l => exact ⟨.goto l, sl', M', ρ', rfl, hQ, hH', hS'⟩
    | ret => exact ⟨.ret, sl', M', ρ', rfl, hQ, hH', hS'⟩
  | cond x p q ihp ihq =>
    intro c hc Q sl M h ρ a w hH hS
    cases c <;> simp only [cCode] at hc <;> (try (repeat' split at hc)) <;> cases hc
    rename_i h1 h2 h3
    simp only [W] at h
    split at h
    · rename_i b hb
      have hA := env_is hS h1 hb
      exact wp_cond_split (t := b) hA (fun e => ihp _ h2 Q sl M (h.yes e) ρ a w hH hS) (fun e => ihq _ h3 Q sl M (h.no e) ρ a w hH hS)
    · exact h.elim
  | block id x ih =>
    intro c hc Q sl M h ρ a w hH hS
    cases c <;> simp only [cCode] at hc <;> (try (repeat' split at hc)) <;> cases hc
    rename_i h1
    refine wp_block (wp_mono (ih _ h1 _ sl M h ρ a w hH hS) ?_)
    rintro e a' w' ⟨ex, sl', M', ρ', rfl, hQ, hH', hS'⟩
    cases ex with
    | normal => exact ⟨.normal, sl', M', ρ', rfl, hQ, hH', hS'⟩
    | exit i =>
      simp only [blockW] at hQ
      simp only [Ex.phys, Exit.inBlock]
      split at hQ
      · rename_i hb
        rw [if_pos (Nat.eq_of_beq_eq_true hb)]
        exact ⟨.normal, sl', M', ρ', rfl, hQ, hH', hS'⟩
      · rename_i hb
        rw [if_neg (fun e => by rw [e, Nat.beq_refl] at hb; cases hb)]
        exact ⟨.exit i, sl', M', ρ', rfl, hQ, hH', hS'⟩
    | goto l => exact ⟨.goto l, sl', M', ρ', rfl, hQ, hH', hS'⟩
    | ret => exact ⟨.ret, sl', M', ρ', rfl, hQ, hH', hS'⟩
  | loop x ih =>
    intro c hc Q sl M h ρ a w hH hS
    cases c <;> simp only [cCode] at hc <;> (try (repeat' split at hc)) <;> cases hc
    rename_i cx' h1
    obtain ⟨sl1, M1, ρ1, h, hH1, hS1⟩ := gcW_spec hm h0 h hH hS
    refine loop_of_round (h.run (fun sl M => ∀ ρ a w, Hist ρ0 M0 w0 ρ M w → SlotsOk ρ n (look sl) a → Round P _ (Fin ρ0 M0 w0 n Q) a w) ?_ ρ1 a w hH1 hS1)
    intro sl M hW ρ a w hH hS
    refine round_of (wp_mono (ih _ h1 _ sl M hW ρ a w hH hS) ?_)
    rintro e a' w' ⟨ex, sl', M', ρ', rfl, hQ, hH', hS'⟩
    cases ex with
    | normal =>
      obtain ⟨sl2, M2, ρ2, hX, hH2, hS2⟩ := gcW_spec hm h0 hQ hH' hS'
      exact hX ρ2 a' w' hH2 hS2
    | exit id => exact ⟨.exit id, sl', M', ρ', rfl, hQ, hH', hS'⟩
    | goto l => exact ⟨.goto l, sl', M', ρ', rfl, hQ, hH', hS'⟩
    | ret => exact ⟨.ret, sl', M', ρ', rfl, hQ, hH', hS'⟩
  | scope l x r ihx ihr =>
    intro c hc Q sl M h ρ a w hH hS
    cases c <;> simp only [cCode] at hc <;> (try (repeat' split at hc)) <;> cases hc
    rename_i cc _ _ _ h1 h2 h3
    obtain ⟨rest, hf, hr⟩ := cCode_find h1 h3
    have key : ∀ sl M, LoopW (fun X sl M => W cx r (gotoW l (fun sl M => gcW cx sl M X) Q) sl M) sl M → ∀ ρ a w, Hist ρ0 M0 w0 ρ M w → SlotsOk ρ n (look sl) a → Pass P cc rest (Fin ρ0 M0 w0 n Q) a w := fun sl M hL => by
      refine hL.run (fun sl M => ∀ ρ a w, Hist ρ0 M0 w0 ρ M w → SlotsOk ρ n (look sl) a → Pass P cc rest (Fin ρ0 M0 w0 n Q) a w) ?_
      intro sl M hW ρ a w hH hS
      refine scope_arr hf (wp_mono (ihr _ hr _ sl M hW ρ a w hH hS) ?_)
      rintro e a' w' ⟨ex, sl', M', ρ', rfl, hQ, hH', hS'⟩
      cases ex with
      | normal => exact ⟨.normal, sl', M', ρ', rfl, hQ, hH', hS'⟩
      | exit id => exact ⟨.exit id, sl', M', ρ', rfl, hQ, hH', hS'⟩
      | goto i =>
        simp only [gotoW] at hQ
        split at hQ
        · rename_i hb
          obtain ⟨sl2, M2, ρ2, hX, hH2, hS2⟩ := gcW_spec hm h0 hQ hH' hS'
          exact ⟨Nat.eq_of_beq_eq_true hb, hX ρ2 a' w' hH2 hS2⟩
        · exact hQ.elim
      | ret => exact ⟨.ret, sl', M', ρ', rfl, hQ, hH', hS'⟩
    refine scope_of hf (wp_mono (ihx _ h1 _ sl M h ρ a w hH hS) ?_)
    rintro e a' w' ⟨ex, sl', M', ρ', rfl, hQ, hH', hS'⟩
    cases ex with
    | normal => exact ⟨.normal, sl', M', ρ', rfl, hQ, hH', hS'⟩
    | exit id => exact ⟨.exit id, sl', M', ρ', rfl, hQ, hH', hS'⟩
    | goto i =>
      simp only [gotoW] at hQ
      split at hQ
      · rename_i hb
        obtain ⟨sl2, M2, ρ2, hX, hH2, hS2⟩ := gcW_spec hm h0 hQ hH' hS'
        exact ⟨Nat.eq_of_beq_eq_true hb, key sl2 M2 hX ρ2 a' w' hH2 hS2⟩
      · exact hQ.elim
    | ret => exact ⟨.ret, sl', M', ρ', rfl, hQ, hH', hS'⟩
  | reg vos tot pairs =>
    intro c hc Q sl M h ρ a w hH hS
    cases c <;> simp only [cCode] at hc <;> (try (repeat' split at hc)) <;> cases hc
    · rename_i id ops _ _ hops
      simp only [W] at h
      obtain ⟨sl1, h, hsub⟩ := trimW_spec _ _ h
      rw [forceN_eq, forceM_eq, hP] at h
      refine wp_region ?_
      have := region_text (n := n) (ρ0 := ρ0) (M0 := M0) (w0 := w0) hk (all := ops) (base := lenR M) (Q := Fin ρ0 M0 w0 n Q) (K := fun sl M _ => Q .normal sl M) hH.len (fun sl M ft ρ a w hq hH hS => ⟨.normal, sl, M, ρ, rfl, hq, hH, hS⟩)
        ops.toList 0 0 vos tot sl1 (appR M (deads tot)) [] ρ a w rfl hops h (hH.more tot) (hS.sub hsub) (by rw [lenR_appR, lenR_deads]; exact Nat.le_refl _) (fun k hk => ?_)
      · rw [List.range_eq_range']; simpa using this
      · cases hq : ρ k with
        | none => rfl
        | some p => have := hH.rep.dom k p hq; omega
    · rename_i id ops _ _ _ _ hback hap hops
      simp only [W] at h
      obtain ⟨sl1, h, hsub⟩ := trimW_spec _ _ h
      rw [forceN_eq, forceM_eq, hP] at h
      obtain ⟨its, sl2, M2, g1, g2, ⟨g3, g4⟩⟩ := run_of_opsW _ _ _ _ h
      simp only [List.nil_append] at g3
      obtain ⟨c1, c2, c3, c4⟩ := cOps_get _ _ _ _ hops
      have hlen : its.length = ops.size := by
        have := congrArg List.length g1
        rw [List.length_map, c1] at this; simpa using this
      refine wp_region_any hmix ?_
      refine region_any (n := n) (ρ0 := ρ0) (M0 := M0) (w0 := w0) (L' := look sl2) (M' := M2) hk (base := lenR M) hH.len hops g1 hback hap g3 (fun ρ a w hH hS => ⟨.normal, sl2, M2, ρ, rfl, g4, hH, hS⟩)
        ops.size (List.range ops.size) _ (look sl1) (appR M (deads tot)) ρ a _ (by simp) List.nodup_range (by simp) (List.pairwise_lt_range) (fun i => ?_) (fun i p hi hl => ?_) (by rw [← hlen, pick_all]; exact g2) ((hH.more tot).drew _) (hS.sub hsub)
        (by rw [lenR_appR, lenR_deads]; exact Nat.le_refl _) (fun i v _ _ k hk1 _ => ?_)
      · simp only [List.mem_range, Array.getD_eq_getD_getElem?]
        constructor
        · intro h; exact ⟨h, by simp [h]⟩
        · exact fun h => h.1
      · simp [Array.getD_eq_getD_getElem?, hi] at hl
      · cases hq : ρ k with
        | none => rfl
        | some p => have := hH.rep.dom k p hq; omega
/-! a function -/
theorem resW_run (hS : SlotsOk ρ n (look sl) a) (hR : Rep ρ M w) : ∀ (rs : List ResultVar) (vr : List VRes) (K : List PV → Prop), cRes P rs = some vr → resW sl M vr K →
    ∃ l us, (rs.mapM fun | .tmp t => pure (a.tmps.getD t undef) | .cell x t => do loadVar t (← asAddr (a.tmps.getD x undef)) : Sem (List Value)).run P w = .ok us w ∧ isPL ρ l us ∧ K l
  | [], vr, K, hc, h => by
    cases hc
    exact ⟨[], [], rfl, rfl, h⟩
  | .tmp t :: rs, vr, K, hc, h => by
    simp only [cRes] at hc
    split at hc
    · rename_i l hl
      cases hc
      simp only [resW] at h
      split at h
      · rename_i x hx
        obtain ⟨u, hu, hI⟩ := hS.ok t _ hx
        obtain ⟨l', us, h1, h2, h3⟩ := resW_run hS hR rs l _ hl h
        refine ⟨x :: l', u :: us, ?_, ⟨u, us, rfl, hI, h2⟩, h3⟩
        have : a.tmps.getD t undef = u := by simp [Array.getD_eq_getD_getElem?, hu]
        simp only [List.mapM_cons, Sem.run_bind, Sem.run_pure, Result.andThen_ok, this, h1]
      · exact h.elim
    · cases hc
  | .cell t ty :: rs, vr, K, hc, h => by
    simp only [cRes] at hc
    split at hc
    · rename_i ag l hag hl
      cases hc
      cases ag with
      | none =>
        simp only [resW] at h
        split at h
        · rename_i b off hx
          split at h
          · rename_i r1 r2 row hrow
            obtain ⟨s, hs, h⟩ := h
            rw [SV.force_eq] at h
            obtain ⟨u, hu, p, hp, hv⟩ := hS.ok t _ hx
            obtain ⟨q, hq, hr⟩ := hR.rows b (by rw [hrow]; rfl)
            rw [hp] at hq; cases hq
            rw [hrow] at hr
            obtain ⟨v, hv1, hcell⟩ := hr.2.1 off s hs
            obtain ⟨l', us, h1, h2, h3⟩ := resW_run hS hR rs l _ hl h
            refine ⟨.o s :: l', v :: us, ?_, ⟨v, us, rfl, hv1, h2⟩, h3⟩
            have : a.tmps.getD t undef = u := by simp [Array.getD_eq_getD_getElem?, hu]
            have h5 : (loadVar ty ⟨p.blk, p.base + off, none⟩).run P w = .ok v w := by
              simp only [Sem.run_bind, Sem.run_pure, Result.andThen_ok, loadVar, (aggT_none (w := w) hag).1, Bool.false_eq_true, if_false, Sem.run_ite, run_load, hcell]
            have h6 : (asAddr (.pointer (some ⟨p.blk, p.base + off, none⟩))).run P w = .ok ⟨p.blk, p.base + off, none⟩ w := rfl
            simp only [List.mapM_cons, Sem.run_bind, this, hv, h6, Sem.run_pure, Result.andThen_ok, h5, h1]
          · exact h.elim
        · exact h.elim
      | some k =>
        simp only [resW] at h
        split at h
        · rename_i b off hx
          split at h
          · rename_i r1 r2 row hrow
            obtain ⟨c, hcc, h⟩ := h
            rw [forceL_eq] at h
            obtain ⟨u, hu, p, hp, hv⟩ := hS.ok t _ hx
            obtain ⟨vs, hL, hlen, hcell⟩ := cells_vals hR hp hrow hcc
            obtain ⟨d, hud, hd, hi⟩ := aggT_some hag
            obtain ⟨l', us, h1, h2, h3⟩ := resW_run hS hR rs l _ hl h
            refine ⟨.a c :: l', .agg vs.toArray :: us, ?_, ⟨_, us, rfl, ⟨_, rfl, by simpa using hL⟩, h2⟩, h3⟩
            have e : a.tmps.getD t undef = u := by simp [Array.getD_eq_getD_getElem?, hu]
            have hl := run_loadVar_mid w p.blk (p.base + off) ty vs d hcell hud hd (by rw [hi, hlen])
            have h6 : (asAddr (.pointer (some ⟨p.blk, p.base + off, none⟩))).run P w = .ok ⟨p.blk, p.base + off, none⟩ w := rfl
            simp only [List.mapM_cons, Sem.run_bind, e, hv, h6, Sem.run_pure, Result.andThen_ok, hl, h1]
          · exact h.elim
        · exact h.elim
    · cases hc
theorem oneV_is {l : List PV} {us : List Value} (h : isPL ρ l us) : (oneV l).Is ρ (if h : us.toArray.size = 1 then us.toArray[0] else .tuple us.toArray) := by
  cases l with
  | nil => simp only [isPL] at h; subst h; exact ⟨#[], by simp, rfl⟩
  | cons x l =>
    obtain ⟨v, r, rfl, h2, h3⟩ := h
    cases l with
    | nil => simp only [isPL] at h3; subst h3; exact h2
    | cons y l =>
      obtain ⟨v', r', rfl, h4, h5⟩ := h3
      refine ⟨(v :: v' :: r').toArray, by simp, v, v' :: r', by simp, h2, v', r', rfl, h4, h5⟩
theorem look_slots0 : ∀ (l : List PV) (k t : Nat), look (slots0 k l) t = if k ≤ t then (l[t - k]?).map V.p else none
  | [], k, t => by simp [slots0, look]
  | x :: l, k, t => by
    simp only [slots0]
    rw [look_cons, look_slots0 l (k + 1) t]
    by_cases h : k = t
    · subst h; simp
    · rw [if_neg h]
      by_cases h2 : k ≤ t
      · rw [if_pos (by omega), if_pos h2, show t - k = (t - (k + 1)) + 1 by omega, List.getElem?_cons_succ]
      · rw [if_neg (by omega), if_neg h2]
theorem can_of_W (hk : Known P eqs) (hmix : P.follows .mixedOrders = true) {f : FuncId} {fn : Func} {vf : VFn} {keep : List Nat} {args : List PV} {R : V → List Row → Prop} (hf : P.funcs[f]? = some fn) (hn : (fn.name == "runtime.NumGoroutine") = false)
    (hc : cFn P eqs news keep fn = some vf) (hargs : args.length ≤ vf.n) (h : FnW P vf args M R) : Can P f args M R := by
  unfold cFn at hc
  split at hc
  · rename_i c hb
    split at hc
    · rename_i vc rs hcc hrs
      cases hc
      refine ⟨⟨fn, hf, hn, by rw [hb]; rfl⟩, fun ρ w vs hR hvs => ?_⟩
      unfold FnW at h
      rw [forceN_eq] at h
      have hvl : vs.length = args.length := by
        clear h hargs
        induction args generalizing vs with
        | nil => simp only [isPL] at hvs; subst hvs; rfl
        | cons x l ih => obtain ⟨v, r, rfl, _, h3⟩ := hvs; simp [ih r h3]
      have hargs' : args.length ≤ fn.ntmps := hargs
      have hS : SlotsOk ρ fn.ntmps (look (slots0 0 args)) { tmps := vs.toArray ++ Array.replicate (fn.ntmps - vs.toArray.size) undef, defers := [] } := by
        refine ⟨by simp only [Array.size_append, Array.size_replicate, List.size_toArray]; omega, rfl, fun t v hv => ?_⟩
        rw [look_slots0, if_pos (Nat.zero_le _), Nat.sub_zero] at hv
        simp only [Option.map_eq_some_iff] at hv
        obtain ⟨x, hx, rfl⟩ := hv
        obtain ⟨u, hu, hI⟩ := nth_isPL hvs hx
        have hlt : t < vs.length := (List.getElem?_eq_some_iff.1 hu).1
        exact ⟨u, by rw [Array.getElem?_append_left (by simpa using hlt)]; simpa using hu, hI⟩
      have hH : Hist ρ M w ρ M w := ⟨hR, Ev.refl _ _ _, fun _ _ => rfl, Nat.le_refl _⟩
      have hW := W_sound (ρ0 := ρ) (M0 := M) (w0 := w) (news := news) (n := fn.ntmps) hk hmix (cx := ⟨P, lenR M, keep⟩) rfl rfl hR.dom vc c hcc _ _ _ h ρ _ w hH hS
      refine calls_of_wp hf hb (wp_mono hW ?_)
      rintro e a' w' ⟨ex, sl', M', ρ', rfl, hQ, hH', hS'⟩
      have fin : (resW sl' M' rs fun l => endW (lenR M) (oneV l) M' R) → a'.defers = [] ∧ ∃ v, (results fn a'.tmps).run P w' = .ok v w' ∧ ∃ u v' M'' ρ'', Ending.returned v = .returned u ∧ R v' M'' ∧ v'.Is ρ'' u ∧ Rep ρ'' M'' w' ∧ Ev ρ M w ρ'' M'' w' ∧ ∀ b, b < lenR M → ρ'' b = ρ b := fun hq => by
        obtain ⟨l, us, h1, h2, h3⟩ := resW_run hS' hH'.rep _ _ _ hrs hq
        unfold endW at h3
        rw [forceNL_eq] at h3
        obtain ⟨hok, h3⟩ := h3
        rw [V.force_eq, forceM_eq] at h3
        obtain ⟨r, hr⟩ := reach_prefix M' fuel (idsRows M' (range0 0 (lenR M)) ++ (oneV l).ids) (range0 0 (lenR M))
        generalize reach M' fuel (idsRows M' (range0 0 (lenR M)) ++ (oneV l).ids) (range0 0 (lenR M)) = ids at *
        obtain ⟨k1, k2, k3⟩ := okIds_iff hok
        have hg := hH'.gc (r := r) hr k2 k3 hR.dom
        refine ⟨hS'.defers, _, ?_, _, _, _, _, rfl, h3.out, (oneV_is h2).ren (fun b hb p hp => by rw [into_idx (k1 b (List.mem_append.2 (.inr hb)))]; exact hp), hg.rep, hg.ev, hg.same⟩
        unfold results
        have hm : (fn.results.mapM fun | .tmp t => pure (a'.tmps.getD t undef) | .cell x t => do loadVar t (← asAddr (a'.tmps.getD x undef)) : Sem (Array Value)).run P w' = .ok us.toArray w' := by
          rw [Array.mapM_eq_mapM_toList]
          refine (Sem.run_map ..).trans ?_
          rw [h1]; rfl
        refine (Sem.run_bind ..).trans ((congrArg (fun r => Result.andThen r _) hm).trans ?_)
        simp only [Result.andThen_ok, Sem.run_pure]
      cases ex with
      | normal => exact fin hQ
      | ret => exact fin hQ
      | exit id => exact hQ.elim
      | goto l => exact hQ.elim
    · cases hc
  · cases hc
end Go.Proofs.Ytnmeeafnobfobaa.VM
