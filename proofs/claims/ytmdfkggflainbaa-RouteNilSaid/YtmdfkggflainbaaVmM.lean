/- The evaluator: every operation that is taken. -/
import Derived.Test.YtmdfkggflainbaaVmZ
namespace Go.Proofs.Ytmdfkggflainbaa.VM
open Go.RowKit
set_option linter.unusedVariables false
set_option linter.unusedSimpArgs false
variable {G : Ground} {P : Program} {ds : List Deferred} {eqs : List Nat} {news : FuncId → Nat} {ρ : PMap} {M : List Row} {w : World} {sl : Env} {a : Act} {n nid : Nat} {o : Oper} {nw : Nat} {K : Eff → Prop}
/-- What is set aside for an operation. -/
def Res (ρ : PMap) (M : List Row) (nid nw : Nat) : Prop := nid + nw ≤ lenR M ∧ ∀ i, nid ≤ i → i < nid + nw → ρ i = none ∧ rowAt M i = .dead
theorem Res.one (h : Res ρ M nid 1) : ρ nid = none ∧ nid < lenR M ∧ rowAt M nid = .dead :=
  ⟨(h.2 nid (Nat.le_refl _) (by omega)).1, by have := h.1; omega, (h.2 nid (Nat.le_refl _) (by omega)).2⟩
theorem opW_d {d : Bool} {v : VOp} (h : opW G P d sl M nid v K) (hv : ∀ f x m, v ≠ .call f x m) (hv' : ∀ f x m, v ≠ .callv f x m) : opW G P false sl M nid v K := by
  cases d
  · exact h
  cases v <;> first | exact h | (exact absurd rfl (hv _ _ _)) | (exact absurd rfl (hv' _ _ _)) | (rename_i z _; cases z <;> exact h) | (rename_i z _ _; cases z <;> exact h) | (rename_i z _ _ _; cases z <;> exact h) | (rename_i z; cases z <;> exact h) | (simp only [opW] at h)
theorem call_good (hk : Known P eqs) {d : Bool} {c : Call} {v : VOp} (ho : o.op = .call c) (hc : cCall P eqs news c = some v) (h : opW G P d sl M nid v K) (hS : SlotsOk ρ n ds sl a) (hR : Rep ρ M w) (hL : Low G ρ M w) (hres : Res ρ M nid (newsOf v)) : Good P o a ρ M w nid (newsOf v) K := by
  unfold cCall at hc
  split at hc
  · rename_i b hb
    split at hc
    · rename_i x t ha ht
      split at hc
      · rename_i x' hu hx
        cases hc
        exact len_good (G := G) (q := false) ho hb ha ht hx (.inl ⟨rfl, hu⟩) hS hR h
      · rename_i e x' hu hx
        cases hc
        exact len_good (G := G) (q := true) ho hb ha ht hx (.inr ⟨rfl, e, hu⟩) hS hR h
      · rename_i m e hu
        cases hc
        exact lenc_good ho hb ha ht hu hR h
      · rename_i k e x' hu hx
        cases hc
        exact mlen_good ho hb ha ht hu hx hS hR (opW_d h (fun _ _ _ => nofun) (fun _ _ _ => nofun))
      · cases hc
    · rename_i x y t _ ha ht
      split at hc
      · rename_i k x' y' hu hx hy
        cases hc
        exact mnx_good (G := G) (mx := false) ho hb ha hx hy hS hR h
      · cases hc
    · rename_i x y t _ ha ht
      split at hc
      · rename_i k x' y' hu hx hy
        cases hc
        exact mnx_good (G := G) (mx := true) ho hb ha hx hy hS hR h
      · cases hc
    · rename_i x y t u ha ht
      split at hc
      · rename_i e x' y' htu hu hx hy
        split at hc
        · rename_i i z hi hz
          split at hc
          · rename_i h1 h2
            cases hc
            have e1 := Nat.eq_of_beq_eq_true htu
            subst e1
            obtain ⟨r1, r2, r3⟩ := Res.one hres
            exact app_good (G := G) ho hb ha ht hu hi hz (Nat.eq_of_beq_eq_true h1) (Nat.le_of_ble_eq_true h2) hx hy hS hR r1 r2 r3 h
          · cases hc
        · cases hc
      · cases hc
    · rename_i x k t tt ha ht
      split at hc
      · rename_i q ks z x' k' hm hx hkx
        cases hc
        exact mdel_good hk ho hb ha ht hm hx hkx hS hR (opW_d h (fun _ _ _ => nofun) (fun _ _ _ => nofun))
      · cases hc
    · rename_i x y t u ha ht
      split at hc
      · rename_i e e' x' y' hu hu' hx hy
        split at hc
        · rename_i i _ hi
          cases hc
          exact cpy_good ho hb ha ht hu hi hx hy hS hR (opW_d h (fun _ _ _ => nofun) (fun _ _ _ => nofun))
        · cases hc
      · cases hc
    · rename_i x t ha ht
      split at hc
      · rename_i e x' hu hx
        split at hc
        · rename_i i z hi hz
          split at hc
          · cases hc
            exact clr_good ho hb ha ht hu hz hx hS hR (opW_d h (fun _ _ _ => nofun) (fun _ _ _ => nofun))
          · cases hc
        · cases hc
      · cases hc
    · cases hc
  · rename_i f hf
    split at hc
    · rename_i xs hxs
      cases hc
      simp only [opW] at h
      split at h
      · rename_i vs hvs
        exact callW_good (fun w hE => enter_func ho hf hE w) (envPs_is hS hxs hvs) hR hL hres.2 hres.1 h
      · exact h.elim
    · cases hc
  · rename_i x hf hx'
    split at hc
    · rename_i x' xs hx hxs
      cases hc
      simp only [opW] at h
      split at h
      · rename_i f caps he
        split at h
        · rename_i vs hvs
          obtain ⟨cv, hv1, hv2⟩ := env_is hS hx he
          exact callW_good (us := c.args.toList.map a.eval ++ cv.toList) (fun w hE => enter_value ho hx' hv1 hE w) (isPL_app (envPs_is hS hxs hvs) (isPL_caps hv2)) hR hL hres.2 hres.1 h
        · exact h.elim
      · rename_i b he
        split at h
        · rename_i vs hvs
          exact yield_good ho hx' (env_is hS hx he) (envPs_is hS hxs hvs) hR hL hres.2 hres.1 h
        · rename_i vs hvs
          exact yieldD_good ho hx' (env_is hS hx he) (envPs_is hS hxs hvs) hR hL hres.2 hres.1 h
        · exact h.elim
      · exact h.elim
    · cases hc
  · cases hc
theorem cbin_good (hk : Known P eqs) {op : BinOp} {t yt : TypeId} {x y : Operand} {vx vy : VX} {v : VOp} (ho : o.op = .binOp op t x y yt) (hx : cX x = some vx) (hy : cX y = some vy) (hc : cBin P eqs op t vx vy = some v) (h : opW G P false sl M nid v K)
    (hS : SlotsOk ρ n ds sl a) (hR : Rep ρ M w) : Good P o a ρ M w nid nw K := by
  have eqb : ∀ (neg : Bool), o.op = .binOp (if neg then .neq else .eql) t x y yt → P.underlying t = some .bool → opW G P false sl M nid (.eq .bool neg vx vy) K → Good P o a ρ M w nid nw K := fun neg ho hu h => by
    simp only [opW] at h
    split at h
    · rename_i p he
      split at h
      · rename_i q he'
        exact eqb_good ho hu hx hy he he' hS hR h
      · exact h.elim
    · exact h.elim
  have eqr : ∀ (neg : Bool) (k : Nat), o.op = .binOp (if neg then .neq else .eql) t x y yt → ((k = 0 ∧ ∃ e, P.underlying t = some (.pointer e)) ∨ (k = 1 ∧ ∃ e, P.underlying t = some (.slice e)) ∨ (k = 2 ∧ ∃ x y z, P.underlying t = some (.func x y z)) ∨ (k = 3 ∧ ∃ x y, P.underlying t = some (.map x y))) →
      opW G P false sl M nid (.eq (.ref k) neg vx vy) K → Good P o a ρ M w nid nw K := fun neg k ho hu h => by
    simp only [opW] at h
    split at h
    · rename_i sa he
      split at h
      · rename_i sb he'
        split at h
        · rename_i c h1 h2
          exact eqr_good ho hu hx hy he he' h1 h2 (.inl rfl) hS hR (by cases c <;> exact h)
        · rename_i h1 h2
          exact eqr_good ho hu hx hy he he' h1 h2 (.inr rfl) hS hR h
        · exact h.elim
      · exact h.elim
    · exact h.elim
  have eqf : ∀ (neg : Bool) (ks : List CK) (fs : Array Field), o.op = .binOp (if neg then .neq else .eql) t x y yt → P.underlying t = some (.struct fs) → mem t eqs = true → flatKs P eqs 20 t = some ks → opW G P false sl M nid (.eq (.flat ks) neg vx vy) K → Good P o a ρ M w nid nw K := fun neg ks fs ho hu hm hks h => by
    simp only [opW] at h
    split at h
    · rename_i l he
      split at h
      · rename_i m he'
        split at h
        · rename_i c hcc
          exact eqf_good hk ho hu hm hks hx hy he he' hcc hS hR h
        · exact h.elim
      · exact h.elim
    · exact h.elim
  have bin : o.op = .binOp op t x y yt → opW G P false sl M nid (.bin op vx vy) K → Good P o a ρ M w nid nw K := fun ho h => by
    simp only [opW] at h
    split at h
    · rename_i sa he
      split at h
      · rename_i sb he'
        exact bin_good ho hx hy he he' hS hR h
      · exact h.elim
    · exact h.elim
  unfold cBin at hc
  split at hc
  · rename_i hu; cases hc; exact eqb false ho hu h
  · rename_i hu; cases hc; exact eqb true ho hu h
  · rename_i e hu; cases hc; exact eqr false 0 ho (.inl ⟨rfl, e, hu⟩) h
  · rename_i e hu; cases hc; exact eqr true 0 ho (.inl ⟨rfl, e, hu⟩) h
  · rename_i e hu; cases hc; exact eqr false 1 ho (.inr (.inl ⟨rfl, e, hu⟩)) h
  · rename_i e hu; cases hc; exact eqr true 1 ho (.inr (.inl ⟨rfl, e, hu⟩)) h
  · rename_i p q r hu; cases hc; exact eqr false 2 ho (.inr (.inr (.inl ⟨rfl, p, q, r, hu⟩))) h
  · rename_i p q r hu; cases hc; exact eqr true 2 ho (.inr (.inr (.inl ⟨rfl, p, q, r, hu⟩))) h
  · rename_i p q hu; cases hc; exact eqr false 3 ho (.inr (.inr (.inr ⟨rfl, p, q, hu⟩))) h
  · rename_i p q hu; cases hc; exact eqr true 3 ho (.inr (.inr (.inr ⟨rfl, p, q, hu⟩))) h
  · rename_i fs hu
    split at hc
    · rename_i ks hm hks; cases hc; exact eqf false ks fs ho hu hm hks h
    · cases hc
  · rename_i fs hu
    split at hc
    · rename_i ks hm hks; cases hc; exact eqf true ks fs ho hu hm hks h
    · cases hc
  · cases hc; exact bin ho h
  · cases hc; exact bin ho h
  · cases hc
theorem op_good (hk : Known P eqs) {d : Bool} {v : VOp} (hc : cOp P eqs news o.op = some v) (h : opW G P d sl M nid v K) (hS : SlotsOk ρ n ds sl a) (hR : Rep ρ M w) (hL : Low G ρ M w) (hres : Res ρ M nid (newsOf v)) : Good P o a ρ M w nid (newsOf v) K := by
  cases ho : o.op <;> rw [ho] at hc <;> simp only [cOp] at hc <;> try (cases hc; done)
  case move x =>
    split at hc
    · rename_i x' hx
      cases hc
      simp only [opW] at h
      split at h
      · rename_i v hv; exact mv_good (by unfold execOp; rw [ho]) hR hS hx hv h
      · exact h.elim
    · cases hc
  case assign x =>
    split at hc
    · rename_i x' hx
      cases hc
      simp only [opW] at h
      split at h
      · rename_i v hv; exact mv_good (by unfold execOp; rw [ho]) hR hS hx hv h
      · exact h.elim
    · cases hc
  case pick c x y =>
    split at hc
    · rename_i c' x' y' h1 h2 h3
      cases hc
      exact pick_good (G := G) ho h1 h2 h3 hS hR h
    · cases hc
  case alloc t =>
    split at hc
    · rename_i l hl
      cases hc
      obtain ⟨r1, r2, r3⟩ := Res.one hres
      exact new_good ho hl hR r1 r2 r3 h
    · cases hc
  case box t x =>
    split at hc
    · rename_i x' hx
      cases hc
      obtain ⟨r1, r2, r3⟩ := Res.one hres
      simp only [opW] at h
      split at h
      · rename_i s he; exact box_good ho hx he rfl hS hR r1 r2 r3 h
      · rename_i l he; exact box_good ho hx he rfl hS hR r1 r2 r3 h
      · exact h.elim
    · cases hc
  case build t parts =>
    split at hc
    · rename_i z fs hz hu
      split at hc
      · rename_i ps h1 h2
        cases hc
        exact bld_good ho hz (.inl ⟨fs, hu, h1, h2⟩) hS hR h
      · cases hc
    · rename_i z k e hz hu
      split at hc
      · rename_i i hi
        split at hc
        · rename_i ps h2
          cases hc
          exact bld_good ho hz (.inr ⟨k, e, i, hu, hi, h2⟩) hS hR h
        · cases hc
      · cases hc
    · cases hc
  case buildSlice t k parts =>
    split at hc
    · rename_i e hu
      split at hc
      · rename_i i z hi hz
        split at hc
        · rename_i ps h1 h2 h3
          cases hc
          obtain ⟨r1, r2, r3⟩ := Res.one hres
          exact bsl_good ho hu hi hz (Nat.eq_of_beq_eq_true h1) (Nat.le_of_ble_eq_true h2) h3 hS hR r1 r2 r3 h
        · cases hc
      · cases hc
    · cases hc
  case load t x =>
    split at hc
    · rename_i ag x' h1 h2
      cases hc
      cases ag with
      | none =>
        simp only [opW] at h
        split at h
        · rename_i b off he
          split at h
          · rename_i r1 r2 l hrow
            obtain ⟨s, hs, hK⟩ := h
            rw [SV.force_eq] at hK
            exact ld_good ho h1 h2 he hrow hs hS hR hK
          · exact h.elim
        · rename_i b off he; exact ldg_good ho h1 h2 he hS hR hL h
        · exact h.elim
      | some k =>
        simp only [opW] at h
        split at h
        · rename_i b off he
          split at h
          · rename_i r1 r2 l hrow
            obtain ⟨s, hs, hK⟩ := h
            rw [forceL_eq] at hK
            exact ldn_good ho h1 h2 he hrow hs hS hR hK
          · exact h.elim
        · exact h.elim
    · cases hc
  case store t x y =>
    split at hc
    · rename_i i x' y' h1 h2 h3
      cases hc
      simp only [opW] at h
      split at h
      · rename_i b off he
        split at h
        · rename_i sym l hrow
          split at h
          · rename_i v hv
            split at h
            · rename_i c hcc
              obtain ⟨g1, g2, g3, hK⟩ := h
              exact st_good (k := 0) ho h1 h2 h3 he hv hrow hcc g1 g2 g3 hS hR hK
            · exact h.elim
          · exact h.elim
        · exact h.elim
      · exact h.elim
    · cases hc
  case nilCheck x =>
    split at hc
    · rename_i x' hx
      cases hc
      exact nilc_good (G := G) ho hx hS hR h
    · cases hc
  case binOp op t x y yt =>
    split at hc
    · rename_i v' hv
      cases hc
      refine ifn_good ho hv hS hR (opW_d h ?_ ?_) <;> (intro f xs m e; subst e; unfold cIfn at hv; (repeat' split at hv) <;> cases hv)
    split at hc
    · rename_i x' y' hx hy
      have hn : ∀ v, cBin P eqs op t x' y' = some v → (∀ f x m, v ≠ .call f x m) ∧ ∀ f x m, v ≠ .callv f x m := fun v hv => by
        unfold cBin at hv
        split at hv <;> (try split at hv) <;> cases hv <;> exact ⟨fun _ _ _ => nofun, fun _ _ _ => nofun⟩
      exact cbin_good hk ho hx hy hc (opW_d h (hn _ hc).1 (hn _ hc).2) hS hR
    · cases hc
  case unOp op t x =>
    split at hc
    · rename_i x' hx
      cases hc
      exact un_good (G := G) ho hx hS hR h
    · cases hc
  case convert s t x =>
    split at hc
    · rename_i x' hx
      unfold cConv at hc
      split at hc
      · rename_i j k h1 h2
        cases hc
        simp only [opW] at h
        split at h
        · rename_i q m he; exact cvi_good ho h1 h2 hx he hS hR h
        · exact h.elim
      · rename_i h1 h2
        cases hc
        simp only [opW] at h
        split at h
        · rename_i m he; exact cvs_good ho h1 h2 hx he hS hR h
        · exact h.elim
      · rename_i e h1 h2
        split at hc
        · rename_i h3
          cases hc
          obtain ⟨r1, r2, r3⟩ := Res.one hres
          simp only [opW] at h
          split at h
          · rename_i m he; exact s2b_good ho h1 h2 h3 hx he hS hR r1 r2 r3 h
          · exact h.elim
        · cases hc
      · rename_i e h1 h2
        split at hc
        · rename_i h3
          cases hc
          exact b2s_good (G := G) ho h1 h2 h3 hx hS hR h
        · cases hc
      · cases hc
    · cases hc
  case makeFunc f first caps =>
    cases f <;> simp only at hc <;> try (cases hc; done)
    split at hc
    · rename_i cs h1 h2
      cases hc
      exact mkf_good (G := G) ho h1 h2 hS hR h
    · cases hc
  case slice t x lo hi mx =>
    cases mx with
    | some mx =>
      cases hi <;> simp only at hc <;> try (cases hc; done)
      split at hc
      · rename_i e x' lo' hi' mx' h1 h2 h3 h4 h5
        split at hc
        · rename_i i hi'2
          cases hc
          exact sl3_good ho h1 hi'2 h2 h3 h4 h5 hS hR (opW_d h (fun _ _ _ => nofun) (fun _ _ _ => nofun))
        · cases hc
      · cases hc
    | none =>
    simp only at hc
    split at hc
    · rename_i x' lo' hi' h1 h2 h3 h4
      cases hc
      exact sls_good (G := G) ho h1 h2 h3 h4 hS hR h
    · rename_i e x' lo' hi' h1 h2 h3 h4
      split at hc
      · rename_i i hi
        cases hc
        exact sll_good (G := G) ho h1 hi h2 h3 h4 hS hR h
      · cases hc
    · rename_i k e x' lo' hi' h1 h2 h3 h4
      split at hc
      · rename_i i hi
        cases hc
        exact sla_good (G := G) ho h1 hi h2 h3 h4 hS hR h
      · cases hc
    · cases hc
  case fieldAddr t x k =>
    split at hc
    · rename_i fs x' hu hx
      split at hc
      · rename_i f hf
        split at hc
        · rename_i i hi
          split at hc
          · cases hc
          · rename_i m hsz
            cases hc
            simp only [opW] at h
            split at h
            · rename_i b off he; exact fad_good ho hu hf hi (by omega) hx he hS hR h
            · exact h.elim
        · cases hc
      · cases hc
    · cases hc
  case field t x k =>
    split at hc
    · rename_i fs x' hu hx
      split at hc
      · rename_i f hf
        split at hc
        · rename_i ag ha
          cases hc
          exact fld_good ho hu hf ha hx hS hR (opW_d h (fun _ _ _ => nofun) (fun _ _ _ => nofun))
        · cases hc
      · cases hc
    · cases hc
  case indexAddr t x i =>
    split at hc
    · rename_i e x' i' hu hx hi
      split at hc
      · rename_i inf hinf
        cases hc
        exact iad_good (G := G) ho hu hinf hx hi hS hR h
      · cases hc
    · rename_i k e x' i' hu hx hi
      split at hc
      · rename_i inf hinf
        cases hc
        exact iaa_good (G := G) ho hu hinf hx hi hS hR h
      · cases hc
    · cases hc
  case index t x i =>
    split at hc
    · rename_i x' i' hu hx hi
      cases hc
      exact ixs_good (G := G) ho hu hx hi hS hR h
    · rename_i k e x' i' hu hx hi
      split at hc
      · rename_i inf ag hinf ha
        cases hc
        exact ixa_good ho hu hinf ha hx hi hS hR (opW_d h (fun _ _ _ => nofun) (fun _ _ _ => nofun))
      · cases hc
    · cases hc
  case extract x k =>
    split at hc
    · rename_i x' hx
      cases hc
      exact ext_good (G := G) ho hx hS hR h
    · cases hc
  case makeSlice t x y =>
    split at hc
    · rename_i e x' y' hu hx hy
      split at hc
      · rename_i i z hi hz
        split at hc
        · rename_i h1 h2
          cases hc
          obtain ⟨r1, r2, r3⟩ := Res.one hres
          exact mks_good (G := G) ho hu hi hz (Nat.eq_of_beq_eq_true h1) (Nat.le_of_ble_eq_true h2) hx hy hS hR r1 r2 r3 h
        · cases hc
      · cases hc
    · cases hc
  case makeMap t sz =>
    cases sz <;> simp only at hc <;> try (cases hc; done)
    split at hc
    · rename_i k e hu
      cases hc
      obtain ⟨r1, r2, r3⟩ := Res.one hres
      exact mkm_good (k := k) (e := e) ho hR r1 r2 r3 (opW_d h (fun _ _ _ => nofun) (fun _ _ _ => nofun))
    · cases hc
  case lookup t x k ok =>
    split at hc
    · rename_i q ks z x' k' hm hx hkx
      cases hc
      exact mget_good hk ho hm hx hkx hS hR (opW_d h (fun _ _ _ => nofun) (fun _ _ _ => nofun))
    · cases hc
  case mapUpdate t x k v =>
    split at hc
    · rename_i q ks z x' k' v' hm hx hkx hv
      cases hc
      exact mset_good hk ho hm hx hkx hv hS hR (opW_d h (fun _ _ _ => nofun) (fun _ _ _ => nofun))
    · cases hc
  case range t x =>
    split at hc
    · rename_i k e x' hu hx
      cases hc
      obtain ⟨r1, r2, r3⟩ := Res.one hres
      exact rng_good ho hu hx hS hR r1 r2 r3 (opW_d h (fun _ _ _ => nofun) (fun _ _ _ => nofun))
    · cases hc
  case next x q =>
    cases q <;> simp only at hc <;> try (cases hc; done)
    split at hc
    · rename_i x' hx
      cases hc
      exact nxt_good ho hx hS hR (opW_d h (fun _ _ _ => nofun) (fun _ _ _ => nofun))
    · cases hc
  case entry x =>
    split at hc
    · rename_i x' hx
      cases hc
      exact ent_good ho hx hS hR (opW_d h (fun _ _ _ => nofun) (fun _ _ _ => nofun))
    · cases hc
  case makeInterface t x =>
    split at hc
    · rename_i k x' hu hx
      cases hc
      exact mki_good ho hu hx hS hR (opW_d h (fun _ _ _ => nofun) (fun _ _ _ => nofun))
    · cases hc; exact h.elim
  case panic => cases hc; exact h.elim
  case call c => exact call_good hk ho hc h hS hR hL hres
end Go.Proofs.Ytmdfkggflainbaa.VM
