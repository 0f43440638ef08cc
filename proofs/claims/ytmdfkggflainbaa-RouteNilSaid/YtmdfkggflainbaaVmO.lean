/- The evaluator: an operation looks at its operands' slots and at the rows of its footprint alone. -/
import Derived.Test.YtmdfkggflainbaaVmN
namespace Go.Proofs.Ytmdfkggflainbaa.VM
open Go.RowKit
set_option linter.unusedVariables false
set_option linter.unusedSimpArgs false
variable {G : Ground} {P : Program} {ds : List Deferred} {L L' : Env} {M M' : List Row} {nid : Nat}
def Agree (L L' : Env) (l : List Nat) : Prop := ∀ t ∈ l, L' t = L t
theorem Agree.l {a b : List Nat} (h : Agree L L' (a ++ b)) : Agree L L' a := fun t ht => h t (List.mem_append.2 (.inl ht))
theorem Agree.r {a b : List Nat} (h : Agree L L' (a ++ b)) : Agree L L' b := fun t ht => h t (List.mem_append.2 (.inr ht))
theorem env_loc {x : VX} (h : Agree L L' (rdX x)) : env L' x = env L x := by
  cases x with
  | t n => exact h n (by simp [rdX])
  | c v => rfl
theorem envPs_loc : ∀ {xs : List VX}, Agree L L' (rdXs xs) → envPs L' xs = envPs L xs
  | [], _ => rfl
  | x :: xs, h => by
    have h' : Agree L L' (rdX x ++ rdXs xs) := h
    simp only [envPs]; rw [env_loc h'.l, envPs_loc h'.r]
theorem envCaps_loc : ∀ {xs : List VX}, Agree L L' (rdXs xs) → envCaps L' xs = envCaps L xs
  | [], _ => rfl
  | x :: xs, h => by
    have h' : Agree L L' (rdX x ++ rdXs xs) := h
    simp only [envCaps]; rw [env_loc h'.l, envCaps_loc h'.r]
theorem withParts_loc : ∀ {ps : List (Nat × Nat × VX)} {z : List SV} {K : List SV → Prop}, withParts L z ps K → ∃ l, K l ∧ ∀ L' (K' : List SV → Prop), Agree L L' (rdP ps) → K' l → withParts L' z ps K'
  | [], z, K, h => by
    simp only [withParts, forceL_eq] at h
    exact ⟨z, h, fun _ K' _ h' => by simp only [withParts, forceL_eq]; exact h'⟩
  | (off, size, x) :: ps, z, K, h => by
    simp only [withParts] at h
    split at h
    · rename_i s he
      split at h
      · rename_i b1 b2
        obtain ⟨l, h1, h2⟩ := withParts_loc h
        refine ⟨l, h1, fun L' K' hL h' => ?_⟩
        have hL' : Agree L L' (rdX x ++ rdP ps) := hL
        simp only [withParts, env_loc hL'.l, he, b1, b2]
        exact h2 _ _ hL'.r h'
      · exact h.elim
    · rename_i m he
      split at h
      · rename_i b1 b2
        obtain ⟨l, h1, h2⟩ := withParts_loc h
        refine ⟨l, h1, fun L' K' hL h' => ?_⟩
        have hL' : Agree L L' (rdX x ++ rdP ps) := hL
        simp only [withParts, env_loc hL'.l, he, b1, b2]
        exact h2 _ _ hL'.r h'
      · exact h.elim
    · exact h.elim
theorem intOfX_loc {x : Option VX} {d : Int} {K : Int → Prop} (h : intOfX L x d K) : ∃ m, K m ∧ ∀ L' (K' : Int → Prop), Agree L L' (rdO x) → K' m → intOfX L' x d K' := by
  cases x with
  | none => exact ⟨d, h, fun _ _ _ h' => h'⟩
  | some x =>
    simp only [intOfX] at h
    split at h
    · rename_i k m he
      refine ⟨m, h, fun L' K' hL h' => ?_⟩
      simp only [intOfX, env_loc (show Agree L L' (rdX x) from hL), he]
      exact h'
    · exact h.elim
theorem binW_loc {op : BinOp} {K : V → Prop} {a b : SV} (h : binW op K a b) : ∃ v, K v ∧ ∀ K' : V → Prop, K' v → binW op K' a b := by
  cases a with
  | int k x =>
    cases b with
    | int k' y =>
      cases op <;> simp only [binW] at h ⊢ <;> obtain ⟨h1, h2⟩ := h <;>
        first
        | exact ⟨_, h2.run, fun K' h' => ⟨h1, ⟨h'⟩⟩⟩
        | exact ⟨_, h2, fun K' h' => ⟨h1, h'⟩⟩
    | _ => exact h.elim
  | str x =>
    cases b with
    | str y =>
      cases op <;> simp only [binW] at h ⊢ <;>
        first
        | exact ⟨_, h.go, fun K' h' => ⟨h.pf, h'⟩⟩
        | exact ⟨_, h, fun K' h' => h'⟩
    | _ => exact h.elim
  | _ => cases b <;> exact h.elim
theorem seen_reach (M : List Row) : ∀ (f : Nat) (todo seen : List Nat) (b : Nat), b ∈ seen → b ∈ reach M f todo seen
  | 0, _, _, _, h => h
  | f + 1, [], _, _, h => h
  | f + 1, c :: todo, seen, b, h => by
    simp only [reach]
    split
    · exact seen_reach M f _ _ b h
    · exact seen_reach M f _ _ b (List.mem_append.2 (.inl h))
theorem reach_loc : ∀ (f : Nat) (todo seen : List Nat), (∀ b ∈ reach M f todo seen, rowAt M' b = rowAt M b) → reach M' f todo seen = reach M f todo seen
  | 0, _, _, _ => rfl
  | f + 1, [], _, _ => rfl
  | f + 1, c :: todo, seen, h => by
    simp only [reach] at h ⊢
    split
    · rename_i hm
      rw [hm] at h
      exact reach_loc f _ _ h
    · rename_i hm
      rw [hm] at h
      have : rowAt M' c = rowAt M c := h c (seen_reach M f _ _ c (by simp))
      rw [this]
      exact reach_loc f _ _ h
theorem rowsAt_loc (g : Nat → Nat) : ∀ (ids : List Nat), (∀ b ∈ ids, rowAt M' b = rowAt M b) → rowsAt M' g ids = rowsAt M g ids
  | [], _ => rfl
  | b :: ids, h => by simp only [rowsAt]; rw [h b (by simp), rowsAt_loc g ids (fun c hc => h c (by simp [hc]))]
theorem closedB_loc (all : List Nat) : ∀ (ids : List Nat), (∀ b ∈ ids, rowAt M' b = rowAt M b) → closedB M' all ids = closedB M all ids
  | [], _ => rfl
  | b :: ids, h => by simp only [closedB]; rw [h b (by simp), closedB_loc all ids (fun c hc => h c (by simp [hc]))]
theorem fst_idsOfWr : ∀ {l : List (Nat × Row)} {q : Nat × Row}, q ∈ l → q.1 ∈ idsOfWr l
  | (b, r) :: l, q, h => by
    simp only [idsOfWr, List.mem_cons]
    rcases List.mem_cons.1 h with rfl | h
    · exact .inl rfl
    · exact .inr (fst_idsOfWr h)
theorem callG_loc {S : List PV → List Row → (V → List Row → Prop) → Prop} (hS : ∀ xs Mc k, S xs Mc k → ∃ v R, (∀ k' : V → List Row → Prop, k' v R → S xs Mc k') ∧ k v R) {vs : List PV} {nn : Nat} {K : Eff → Prop} (h : callG true S M nid vs nn K) :
    ∃ e, K e ∧ ∀ M' (K' : Eff → Prop), (∀ b ∈ e.foot, rowAt M' b = rowAt M b) → K' e → callG true S M' nid vs nn K' := by
  unfold callG at h
  rw [forceNL_eq] at h
  obtain ⟨hok, h⟩ := h
  rw [forcePL_eq, forceM_eq] at h
  rcases hS _ _ _ h with ⟨v, R, h1, h2⟩
  · obtain ⟨h3, h4⟩ := h2
    rw [V.force_eq, forceM_eq] at h4
    have key : ∃ z, (z = zipIds (reach M fuel (idsPL vs) []) (renRows (back (reach M fuel (idsPL vs) []) nid) R) ∨ (∀ p, p ∈ zipIds (reach M fuel (idsPL vs) []) (renRows (back (reach M fuel (idsPL vs) []) nid) R) → rowAt M p.1 = p.2) ∧ z = []) ∧ K ⟨some (v.ren (back (reach M fuel (idsPL vs) []) nid)), z, dropRows (renRows (back (reach M fuel (idsPL vs) []) nid) R) (lenI (reach M fuel (idsPL vs) [])), reach M fuel (idsPL vs) []⟩ := by
      rcases h4.ex with h4 | ⟨hz, h4⟩
      · exact ⟨_, .inl rfl, h4⟩
      · exact ⟨_, .inr ⟨hz, rfl⟩, h4⟩
    obtain ⟨z, hz, h4⟩ := key
    refine ⟨_, h4, fun M' K' hM h' => ?_⟩
    have hM : ∀ b ∈ reach M fuel (idsPL vs) [], rowAt M' b = rowAt M b := hM
    have e1 := reach_loc (M := M) (M' := M') fuel (idsPL vs) [] hM
    unfold callG
    rw [forceNL_eq, e1]
    refine ⟨?_, ?_⟩
    · have e2 : okIds M' (idsPL vs) (reach M fuel (idsPL vs) []) = okIds M (idsPL vs) (reach M fuel (idsPL vs) []) := by unfold okIds; rw [closedB_loc _ _ hM]
      rw [e2]; exact hok
    · rw [forcePL_eq, forceM_eq, rowsAt_loc _ _ hM]
      refine h1 _ ⟨h3, ?_⟩
      rw [V.force_eq, forceM_eq]
      rcases hz with rfl | ⟨hz, rfl⟩
      · exact WrT.all h'
      · exact ⟨.inr ⟨fun q hq => by rw [hM q.1 (mem_zipIds (fst_idsOfWr hq))]; exact hz q hq, h'⟩⟩
theorem callW_loc {f : FuncId} {vs : List PV} {nn : Nat} {K : Eff → Prop} (h : callW G P true M nid f vs nn K) :
    ∃ e, K e ∧ ∀ M' (K' : Eff → Prop), (∀ b ∈ e.foot, rowAt M' b = rowAt M b) → K' e → callW G P true M' nid f vs nn K' :=
  callG_loc (fun xs Mc k hk => by
    rcases hk.ex with ⟨v, R, h1, h2⟩ | ⟨h0, _⟩
    · exact ⟨v, R, fun k' h' => CallW.det h1 h', h2⟩
    · cases h0) h
theorem yieldD_loc {vs : List PV} {nn : Nat} {K : Eff → Prop} (h : callG true (fun xs Mc k => YldD G P xs Mc k) M nid vs nn K) :
    ∃ e, K e ∧ ∀ M' (K' : Eff → Prop), (∀ b ∈ e.foot, rowAt M' b = rowAt M b) → K' e → callG true (fun xs Mc k => YldD G P xs Mc k) M' nid vs nn K' :=
  callG_loc (fun xs Mc k hk => by
    obtain ⟨v, R, h1, h2⟩ := hk.ex
    exact ⟨v, R, fun k' h' => ⟨v, R, h1, h'⟩, h2⟩) h
theorem opW_loc {v : VOp} {K : Eff → Prop} (h : opW G P true L M nid v K) :
    ∃ e, K e ∧ ∀ L' M' (K' : Eff → Prop), Agree L L' (readsOf v) → (∀ b ∈ e.foot, rowAt M' b = rowAt M b) → K' e → opW G P true L' M' nid v K' := by
  cases v with
  | mv x =>
    simp only [opW] at h
    split at h
    · rename_i v he; exact ⟨_, h, fun L' M' K' hL hM h' => by simp only [opW, env_loc (show Agree L L' (rdX x) from hL), he]; exact h'⟩
    · exact h.elim
  | pick c x y =>
    simp only [opW] at h
    split at h
    · rename_i b he
      cases b with
      | true =>
        have h := h.yes rfl
        split at h
        · rename_i v hv
          refine ⟨_, h, fun L' M' K' hL hM h' => ?_⟩
          have hL : Agree L L' (rdX c ++ (rdX x ++ rdX y)) := hL
          simp only [opW, env_loc hL.l, he, env_loc hL.r.l, hv]
          exact ⟨fun _ => h', fun h => by cases h⟩
        · exact h.elim
      | false =>
        have h := h.no rfl
        split at h
        · rename_i v hv
          refine ⟨_, h, fun L' M' K' hL hM h' => ?_⟩
          have hL : Agree L L' (rdX c ++ (rdX x ++ rdX y)) := hL
          simp only [opW, env_loc hL.l, he, env_loc hL.r.r, hv]
          exact ⟨(fun h => by cases h), fun _ => h'⟩
        · exact h.elim
    · exact h.elim
  | new l => exact ⟨_, h, fun _ _ _ _ _ h' => h'⟩
  | box x =>
    simp only [opW] at h
    split at h
    · rename_i s he; exact ⟨_, h, fun L' M' K' hL hM h' => by simp only [opW, env_loc (show Agree L L' (rdX x) from hL), he]; exact h'⟩
    · rename_i s he; exact ⟨_, h, fun L' M' K' hL hM h' => by simp only [opW, env_loc (show Agree L L' (rdX x) from hL), he]; exact h'⟩
    · exact h.elim
  | bld z ps =>
    simp only [opW] at h
    obtain ⟨l, h1, h2⟩ := withParts_loc h
    exact ⟨_, h1, fun L' M' K' hL hM h' => by simp only [opW]; exact h2 _ _ hL h'⟩
  | bsl k z ps =>
    simp only [opW] at h
    obtain ⟨l, h1, h2⟩ := withParts_loc h
    exact ⟨_, h1, fun L' M' K' hL hM h' => by simp only [opW]; exact h2 _ _ hL h'⟩
  | ld ag x =>
    cases ag with
    | none =>
      simp only [opW] at h
      split at h
      · rename_i b off he
        split at h
        · rename_i r1 r2 l hrow
          obtain ⟨s, hs, hK⟩ := h
          rw [SV.force_eq] at hK
          refine ⟨_, hK, fun L' M' K' hL hM h' => ?_⟩
          simp only [opW, env_loc (show Agree L L' (rdX x) from hL), he, hM b (by simp), hrow]
          exact ⟨s, hs, by rw [SV.force_eq]; exact h'⟩
        · exact h.elim
      · rename_i b off he
        obtain ⟨s, u, h1, h2, h3, hK⟩ := h
        refine ⟨_, hK, fun L' M' K' hL hM h' => ?_⟩
        simp only [opW, env_loc (show Agree L L' (rdX x) from hL), he]
        exact ⟨s, u, h1, h2, h3, h'⟩
      · exact h.elim
    | some k =>
      simp only [opW] at h
      split at h
      · rename_i b off he
        split at h
        · rename_i r1 r2 l hrow
          obtain ⟨s, hs, hK⟩ := h
          rw [forceL_eq] at hK
          refine ⟨_, hK, fun L' M' K' hL hM h' => ?_⟩
          simp only [opW, env_loc (show Agree L L' (rdX x) from hL), he, hM b (by simp), hrow]
          exact ⟨s, hs, by rw [forceL_eq]; exact h'⟩
        · exact h.elim
      · exact h.elim
  | st k x y =>
    simp only [opW] at h
    split at h
    · rename_i b off he
      split at h
      · rename_i sym l hrow
        split at h
        · rename_i v hv
          split at h
          · rename_i c hc
            obtain ⟨g1, g2, g3, hK⟩ := h
            refine ⟨_, hK, fun L' M' K' hL hM h' => ?_⟩
            have hL : Agree L L' (rdX x ++ rdX y) := hL
            simp only [opW, env_loc hL.l, he, hM b (by simp), hrow, env_loc hL.r, hv, hc]
            exact ⟨g1, g2, g3, h'⟩
          · exact h.elim
        · exact h.elim
      · exact h.elim
    · exact h.elim
  | nilc x =>
    simp only [opW] at h
    split at h
    · rename_i b off he; exact ⟨_, h, fun L' M' K' hL hM h' => by simp only [opW, env_loc (show Agree L L' (rdX x) from hL), he]; exact h'⟩
    · rename_i b off he; exact ⟨_, h, fun L' M' K' hL hM h' => by simp only [opW, env_loc (show Agree L L' (rdX x) from hL), he]; exact h'⟩
    · exact h.elim
  | bin op x y =>
    simp only [opW] at h
    split at h
    · rename_i s he
      split at h
      · rename_i t he'
        obtain ⟨v, h1, h2⟩ := binW_loc h
        refine ⟨_, h1, fun L' M' K' hL hM h' => ?_⟩
        have hL : Agree L L' (rdX x ++ rdX y) := hL
        simp only [opW, env_loc hL.l, he, env_loc hL.r, he']
        exact h2 _ h'
      · exact h.elim
    · exact h.elim
  | eq k neg x y =>
    cases k with
    | bool =>
      simp only [opW] at h
      split at h
      · rename_i s he
        split at h
        · rename_i t he'
          refine ⟨_, h, fun L' M' K' hL hM h' => ?_⟩
          have hL : Agree L L' (rdX x ++ rdX y) := hL
          simp only [opW, env_loc hL.l, he, env_loc hL.r, he']
          exact h'
        · exact h.elim
      · exact h.elim
    | flat ks =>
      simp only [opW] at h
      split at h
      · rename_i s he
        split at h
        · rename_i t he'
          split at h
          · rename_i c hc
            refine ⟨_, h, fun L' M' K' hL hM h' => ?_⟩
            have hL : Agree L L' (rdX x ++ rdX y) := hL
            simp only [opW, env_loc hL.l, he, env_loc hL.r, he', hc]
            exact h'
          · exact h.elim
        · exact h.elim
      · exact h.elim
    | ref k =>
      simp only [opW] at h
      split at h
      · rename_i s he
        split at h
        · rename_i t he'
          split at h
          · rename_i c h1 h2
            refine ⟨_, h, fun L' M' K' hL hM h' => ?_⟩
            have hL : Agree L L' (rdX x ++ rdX y) := hL
            simp only [opW, env_loc hL.l, he, env_loc hL.r, he', h1, h2]
            exact h'
          · rename_i h1 h2
            refine ⟨_, h, fun L' M' K' hL hM h' => ?_⟩
            have hL : Agree L L' (rdX x ++ rdX y) := hL
            simp only [opW, env_loc hL.l, he, env_loc hL.r, he', h1, h2]
            exact h'
          · exact h.elim
        · exact h.elim
      · exact h.elim
  | un op x =>
    simp only [opW] at h
    split at h
    · rename_i b he; exact ⟨_, h, fun L' M' K' hL hM h' => by simp only [opW, env_loc (show Agree L L' (rdX x) from hL), he]; exact h'⟩
    · rename_i k m he; exact ⟨_, h.run, fun L' M' K' hL hM h' => by simp only [opW, env_loc (show Agree L L' (rdX x) from hL), he]; exact ⟨h'⟩⟩
    · rename_i k m he; exact ⟨_, h.run, fun L' M' K' hL hM h' => by simp only [opW, env_loc (show Agree L L' (rdX x) from hL), he]; exact ⟨h'⟩⟩
    · exact h.elim
  | cvi k x =>
    simp only [opW] at h
    split at h
    · rename_i b m he; exact ⟨_, h.run, fun L' M' K' hL hM h' => by simp only [opW, env_loc (show Agree L L' (rdX x) from hL), he]; exact ⟨h'⟩⟩
    · exact h.elim
  | cvs x =>
    simp only [opW] at h
    split at h
    · rename_i m he; exact ⟨_, h, fun L' M' K' hL hM h' => by simp only [opW, env_loc (show Agree L L' (rdX x) from hL), he]; exact h'⟩
    · exact h.elim
  | s2b x =>
    simp only [opW] at h
    split at h
    · rename_i m he; exact ⟨_, h, fun L' M' K' hL hM h' => by simp only [opW, env_loc (show Agree L L' (rdX x) from hL), he]; exact h'⟩
    · exact h.elim
  | b2s x =>
    simp only [opW] at h
    split at h
    · rename_i he; exact ⟨_, h, fun L' M' K' hL hM h' => by simp only [opW, env_loc (show Agree L L' (rdX x) from hL), he]; exact h'⟩
    · rename_i b off k cc he
      split at h
      · rename_i r1 r2 l hrow
        obtain ⟨c, hc, ⟨bs, hbs, hK⟩⟩ := h
        refine ⟨_, hK, fun L' M' K' hL hM h' => ?_⟩
        simp only [opW, env_loc (show Agree L L' (rdX x) from hL), he, hM b (by simp), hrow]
        exact ⟨c, hc, ⟨bs, hbs, h'⟩⟩
      · exact h.elim
    · exact h.elim
  | mkf f cs =>
    simp only [opW] at h
    split at h
    · rename_i l hl; exact ⟨_, h, fun L' M' K' hL hM h' => by simp only [opW, envCaps_loc (show Agree L L' (rdXs cs) from hL), hl]; exact h'⟩
    · exact h.elim
  | sls x lo hi =>
    simp only [opW] at h
    split at h
    · rename_i s he
      obtain ⟨p, h, g1⟩ := intOfX_loc h
      obtain ⟨q, h, g2⟩ := intOfX_loc h
      obtain ⟨h1, h2⟩ := h
      refine ⟨_, h2, fun L' M' K' hL hM h' => ?_⟩
      have hL : Agree L L' (rdX x ++ (rdO lo ++ rdO hi)) := hL
      simp only [opW, env_loc hL.l, he]
      exact g1 _ _ hL.r.l (g2 _ _ hL.r.r ⟨h1, h'⟩)
    · exact h.elim
  | sll k x lo hi =>
    simp only [opW] at h
    split at h
    · rename_i b off m c he
      obtain ⟨p, h, g1⟩ := intOfX_loc h
      obtain ⟨q, h, g2⟩ := intOfX_loc h
      obtain ⟨h1, h2⟩ := h
      cases c with
      | is z =>
        refine ⟨_, h2, fun L' M' K' hL hM h' => ?_⟩
        have hL : Agree L L' (rdX x ++ (rdO lo ++ rdO hi)) := hL
        simp only [opW, env_loc hL.l, he]
        exact g1 _ _ hL.r.l (g2 _ _ hL.r.r ⟨h1, h'⟩)
      | upto z =>
        obtain ⟨h2, h3⟩ := h2
        refine ⟨_, h3, fun L' M' K' hL hM h' => ?_⟩
        have hL : Agree L L' (rdX x ++ (rdO lo ++ rdO hi)) := hL
        simp only [opW, env_loc hL.l, he]
        exact g1 _ _ hL.r.l (g2 _ _ hL.r.r ⟨h1, h2, h'⟩)
    · rename_i he
      obtain ⟨p, h, g1⟩ := intOfX_loc h
      obtain ⟨q, h, g2⟩ := intOfX_loc h
      obtain ⟨h1, h2⟩ := h
      refine ⟨_, h2, fun L' M' K' hL hM h' => ?_⟩
      have hL : Agree L L' (rdX x ++ (rdO lo ++ rdO hi)) := hL
      simp only [opW, env_loc hL.l, he]
      exact g1 _ _ hL.r.l (g2 _ _ hL.r.r ⟨h1, h'⟩)
    · exact h.elim
  | sla k z x lo hi =>
    simp only [opW] at h
    split at h
    · rename_i b off he
      obtain ⟨p, h, g1⟩ := intOfX_loc h
      obtain ⟨q, h, g2⟩ := intOfX_loc h
      obtain ⟨h1, h2⟩ := h
      refine ⟨_, h2, fun L' M' K' hL hM h' => ?_⟩
      have hL : Agree L L' (rdX x ++ (rdO lo ++ rdO hi)) := hL
      simp only [opW, env_loc hL.l, he]
      exact g1 _ _ hL.r.l (g2 _ _ hL.r.r ⟨h1, h'⟩)
    · exact h.elim
  | fad off x =>
    simp only [opW] at h
    split at h
    · rename_i b o he; exact ⟨_, h, fun L' M' K' hL hM h' => by simp only [opW, env_loc (show Agree L L' (rdX x) from hL), he]; exact h'⟩
    · exact h.elim
  | fld off ag x =>
    cases ag with
    | none =>
      simp only [opW] at h
      split at h
      · rename_i l he
        obtain ⟨s, hs, hK⟩ := h
        rw [SV.force_eq] at hK
        refine ⟨_, hK, fun L' M' K' hL hM h' => ?_⟩
        simp only [opW, env_loc (show Agree L L' (rdX x) from hL), he]
        exact ⟨s, hs, by rw [SV.force_eq]; exact h'⟩
      · exact h.elim
    | some k =>
      simp only [opW] at h
      split at h
      · rename_i l he
        obtain ⟨s, hs, hK⟩ := h
        rw [forceL_eq] at hK
        refine ⟨_, hK, fun L' M' K' hL hM h' => ?_⟩
        simp only [opW, env_loc (show Agree L L' (rdX x) from hL), he]
        exact ⟨s, hs, by rw [forceL_eq]; exact h'⟩
      · exact h.elim
  | iad k x i =>
    simp only [opW] at h
    split at h
    · rename_i b off m c he
      split at h
      · rename_i q p he'
        obtain ⟨h1, h2⟩ := h
        refine ⟨_, h2, fun L' M' K' hL hM h' => ?_⟩
        have hL : Agree L L' (rdX x ++ rdX i) := hL
        simp only [opW, env_loc hL.l, he, env_loc hL.r, he']
        exact ⟨h1, h'⟩
      · exact h.elim
    · exact h.elim
  | iaa z k x i =>
    simp only [opW] at h
    split at h
    · rename_i b off he
      split at h
      · rename_i q p he'
        obtain ⟨h1, h2⟩ := h
        refine ⟨_, h2, fun L' M' K' hL hM h' => ?_⟩
        have hL : Agree L L' (rdX x ++ rdX i) := hL
        simp only [opW, env_loc hL.l, he, env_loc hL.r, he']
        exact ⟨h1, h'⟩
      · exact h.elim
    · rename_i b off he
      split at h
      · rename_i q p he'
        obtain ⟨h1, h2⟩ := h
        refine ⟨_, h2, fun L' M' K' hL hM h' => ?_⟩
        have hL : Agree L L' (rdX x ++ rdX i) := hL
        simp only [opW, env_loc hL.l, he, env_loc hL.r, he']
        exact ⟨h1, h'⟩
      · exact h.elim
    · exact h.elim
  | ixs x i =>
    simp only [opW] at h
    split at h
    · rename_i s he
      split at h
      · rename_i q p he'
        obtain ⟨h1, h2⟩ := h
        refine ⟨_, h2, fun L' M' K' hL hM h' => ?_⟩
        have hL : Agree L L' (rdX x ++ rdX i) := hL
        simp only [opW, env_loc hL.l, he, env_loc hL.r, he']
        exact ⟨h1, h'⟩
      · exact h.elim
    · exact h.elim
  | ixa z k ag x i =>
    cases ag with
    | none =>
      simp only [opW] at h
      split at h
      · rename_i l he
        split at h
        · rename_i q p he'
          obtain ⟨h1, s, hs, hK⟩ := h
          rw [SV.force_eq] at hK
          refine ⟨_, hK, fun L' M' K' hL hM h' => ?_⟩
          have hL : Agree L L' (rdX x ++ rdX i) := hL
          simp only [opW, env_loc hL.l, he, env_loc hL.r, he']
          exact ⟨h1, s, hs, by rw [SV.force_eq]; exact h'⟩
        · exact h.elim
      · exact h.elim
    | some m =>
      simp only [opW] at h
      split at h
      · rename_i l he
        split at h
        · rename_i q p he'
          obtain ⟨h1, s, hs, hK⟩ := h
          rw [forceL_eq] at hK
          refine ⟨_, hK, fun L' M' K' hL hM h' => ?_⟩
          have hL : Agree L L' (rdX x ++ rdX i) := hL
          simp only [opW, env_loc hL.l, he, env_loc hL.r, he']
          exact ⟨h1, s, hs, by rw [forceL_eq]; exact h'⟩
        · exact h.elim
      · exact h.elim
  | ext k x =>
    simp only [opW] at h
    split at h
    · rename_i l he
      split at h
      · rename_i y hy
        refine ⟨_, h, fun L' M' K' hL hM h' => ?_⟩
        simp only [opW, env_loc (show Agree L L' (rdX x) from hL), he, hy]
        exact h'
      · exact h.elim
    · exact h.elim
  | len q x =>
    cases q with
    | false =>
      simp only [opW] at h
      split at h
      · rename_i s he; exact ⟨_, h, fun L' M' K' hL hM h' => by simp only [opW, env_loc (show Agree L L' (rdX x) from hL), he]; exact h'⟩
      · exact h.elim
    | true =>
      simp only [opW] at h
      split at h
      · rename_i b off m c he; exact ⟨_, h, fun L' M' K' hL hM h' => by simp only [opW, env_loc (show Agree L L' (rdX x) from hL), he]; exact h'⟩
      · rename_i he; exact ⟨_, h, fun L' M' K' hL hM h' => by simp only [opW, env_loc (show Agree L L' (rdX x) from hL), he]; exact h'⟩
      · exact h.elim
  | lenc m => exact ⟨_, h, fun _ _ _ _ _ h' => h'⟩
  | app k by_ x y =>
    simp only [opW] at h
    split at h
    · rename_i b2 o2 n2 c2' he2
      split at h
      · rename_i r1 sym2 l2 hrow2
        obtain ⟨c2, hc2, h⟩ := h
        split at h
        · rename_i he
          obtain ⟨h1, h2⟩ := h
          refine ⟨_, h2, fun L' M' K' hL hM h' => ?_⟩
          have hL : Agree L L' (rdX x ++ rdX y) := hL
          simp only [opW, env_loc hL.r, he2, hM b2 (by simp), hrow2]
          refine ⟨c2, hc2, ?_⟩
          simp only [env_loc hL.l, he]
          exact ⟨h1, h'⟩
        · rename_i b off m cc he
          split at h
          · rename_i rw1 sym l hrow
            cases cc with
            | is z =>
              obtain ⟨h0, h⟩ := h
              by_cases hd : m + n2 ≤ z
              · obtain ⟨h1, h2⟩ := h.yes (by simpa using hd)
                refine ⟨_, h2, fun L' M' K' hL hM h' => ?_⟩
                have hL : Agree L L' (rdX x ++ rdX y) := hL
                simp only [opW, env_loc hL.r, he2, hM b2 (by simp), hrow2]
                refine ⟨c2, hc2, ?_⟩
                simp only [env_loc hL.l, he, hM b (by simp), hrow]
                exact ⟨h0, fun _ => ⟨h1, h'⟩, fun hn => absurd hd (by simpa using hn)⟩
              · obtain ⟨c1, h1, h2⟩ := h.no (by simpa using hd)
                refine ⟨_, h2, fun L' M' K' hL hM h' => ?_⟩
                have hL : Agree L L' (rdX x ++ rdX y) := hL
                simp only [opW, env_loc hL.r, he2, hM b2 (by simp), hrow2]
                refine ⟨c2, hc2, ?_⟩
                simp only [env_loc hL.l, he, hM b (by simp), hrow]
                exact ⟨h0, fun hn => absurd (by simpa using hn) hd, fun _ => ⟨c1, h1, h'⟩⟩
            | upto z =>
              obtain ⟨h1, h2⟩ := h
              refine ⟨_, h2, fun L' M' K' hL hM h' => ?_⟩
              have hL : Agree L L' (rdX x ++ rdX y) := hL
              simp only [opW, env_loc hL.r, he2, hM b2 (by simp), hrow2]
              refine ⟨c2, hc2, ?_⟩
              simp only [env_loc hL.l, he, hM b (by simp), hrow]
              exact ⟨h1, h'⟩
          · exact h.elim
        · exact h.elim
      · exact h.elim
    · rename_i he2
      split at h
      · rename_i he
        refine ⟨_, h, fun L' M' K' hL hM h' => ?_⟩
        have hL : Agree L L' (rdX x ++ rdX y) := hL
        simp only [opW, env_loc hL.l, he, env_loc hL.r, he2]
        exact h'
      · rename_i b off m cc he
        refine ⟨_, h, fun L' M' K' hL hM h' => ?_⟩
        have hL : Agree L L' (rdX x ++ rdX y) := hL
        simp only [opW, env_loc hL.l, he, env_loc hL.r, he2]
        exact h'
      · exact h.elim
    · exact h.elim
  | apps x y => exact h.elim
  | mks k by_ z x y =>
    simp only [opW] at h
    split at h
    · rename_i q p he
      split at h
      · rename_i q' p' he'
        obtain ⟨h1, h2⟩ := h
        refine ⟨_, h2, fun L' M' K' hL hM h' => ?_⟩
        have hL : Agree L L' (rdX x ++ rdX y) := hL
        simp only [opW, env_loc hL.l, he, env_loc hL.r, he']
        exact ⟨h1, h'⟩
      · exact h.elim
    · exact h.elim
  | mnx mx x y =>
    simp only [opW] at h
    split at h
    · rename_i q p he
      split at h
      · rename_i q' p' he'
        obtain ⟨h1, h2⟩ := h
        cases mx with
        | true =>
          refine ⟨_, h2, fun L' M' K' hL hM h' => ?_⟩
          have hL : Agree L L' (rdX x ++ rdX y) := hL
          simp only [opW, env_loc hL.l, he, env_loc hL.r, he']
          exact ⟨h1, h'⟩
        | false =>
          refine ⟨_, h2, fun L' M' K' hL hM h' => ?_⟩
          have hL : Agree L L' (rdX x ++ rdX y) := hL
          simp only [opW, env_loc hL.l, he, env_loc hL.r, he']
          exact ⟨h1, h'⟩
      · exact h.elim
    · exact h.elim
  | call f xs nn =>
    simp only [opW] at h
    split at h
    · rename_i vs hvs
      obtain ⟨e, h1, h2⟩ := callW_loc h
      refine ⟨e, h1, fun L' M' K' hL hM h' => ?_⟩
      simp only [opW, envPs_loc (show Agree L L' (rdXs xs) from hL), hvs]
      exact h2 _ _ hM h'
    · exact h.elim
  | callv x xs nn =>
    simp only [opW] at h
    split at h
    · rename_i f caps he
      split at h
      · rename_i vs hvs
        obtain ⟨e, h1, h2⟩ := callW_loc h
        refine ⟨e, h1, fun L' M' K' hL hM h' => ?_⟩
        have hL : Agree L L' (rdX x ++ rdXs xs) := hL
        simp only [opW, env_loc hL.l, he, envPs_loc hL.r, hvs]
        exact h2 _ _ hM h'
      · exact h.elim
    · rename_i b he
      split at h
      · rename_i hd _; cases hd
      · rename_i vs hd hvs
        obtain ⟨e, h1, h2⟩ := yieldD_loc h
        refine ⟨e, h1, fun L' M' K' hL hM h' => ?_⟩
        have hL : Agree L L' (rdX x ++ rdXs xs) := hL
        simp only [opW, env_loc hL.l, he, envPs_loc hL.r, hvs]
        exact h2 _ _ hM h'
      · exact h.elim
    · exact h.elim
  | cpy k x y =>
    simp only [opW] at h
    split at h
    case h_2 => exact h.elim
    rename_i b off m c he
    split at h
    case h_2 => exact h.elim
    rename_i sym l hrow
    split at h
    case h_2 => exact h.elim
    rename_i b2 o2 n2 c2 he2
    split at h
    case h_2 => exact h.elim
    rename_i rw2 sym2 l2 hrow2
    by_cases hd : n2 ≤ m
    · obtain ⟨c, hc, hbd, hK⟩ := h.yes (by simpa using hd)
      refine ⟨_, hK, fun L' M' K' hL hM h' => ?_⟩
      have hL : Agree L L' (rdX x ++ rdX y) := hL
      simp only [opW, env_loc hL.l, he, env_loc hL.r, he2, hM b (by simp), hrow, hM b2 (by simp), hrow2]
      exact ⟨fun _ => ⟨c, hc, hbd, h'⟩, fun hn => absurd hd (by simpa using hn)⟩
    · obtain ⟨c, hc, hbd, hK⟩ := h.no (by simpa using hd)
      refine ⟨_, hK, fun L' M' K' hL hM h' => ?_⟩
      have hL : Agree L L' (rdX x ++ rdX y) := hL
      simp only [opW, env_loc hL.l, he, env_loc hL.r, he2, hM b (by simp), hrow, hM b2 (by simp), hrow2]
      exact ⟨fun hn => absurd (by simpa using hn) hd, fun _ => ⟨c, hc, hbd, h'⟩⟩
  | clr z x =>
    simp only [opW] at h
    split at h
    · rename_i b off m c he
      split at h
      case h_2 => exact h.elim
      rename_i sym l hrow
      obtain ⟨h1, h2⟩ := h
      refine ⟨_, h2, fun L' M' K' hL hM h' => ?_⟩
      simp only [opW, env_loc (show Agree L L' (rdX x) from hL), he, hM b (by simp), hrow]
      exact ⟨h1, h'⟩
    · rename_i he; exact ⟨_, h, fun L' M' K' hL hM h' => by simp only [opW, env_loc (show Agree L L' (rdX x) from hL), he]; exact h'⟩
    · exact h.elim
  | sl3 k x lo hi mx =>
    simp only [opW] at h
    split at h
    · rename_i b off m c he
      obtain ⟨p, h, g1⟩ := intOfX_loc h
      obtain ⟨q, h, g2⟩ := intOfX_loc h
      obtain ⟨r, h, g3⟩ := intOfX_loc h
      obtain ⟨h1, h2⟩ := h
      refine ⟨_, h2, fun L' M' K' hL hM h' => ?_⟩
      have hL : Agree L L' (rdX x ++ (rdO lo ++ (rdO hi ++ rdO mx))) := hL
      simp only [opW, env_loc hL.l, he]
      exact g1 _ _ hL.r.l (g2 _ _ hL.r.r.l (g3 _ _ hL.r.r.r ⟨h1, h'⟩))
    · rename_i he
      obtain ⟨p, h, g1⟩ := intOfX_loc h
      obtain ⟨q, h, g2⟩ := intOfX_loc h
      obtain ⟨r, h, g3⟩ := intOfX_loc h
      obtain ⟨h1, h2⟩ := h
      refine ⟨_, h2, fun L' M' K' hL hM h' => ?_⟩
      have hL : Agree L L' (rdX x ++ (rdO lo ++ (rdO hi ++ rdO mx))) := hL
      simp only [opW, env_loc hL.l, he]
      exact g1 _ _ hL.r.l (g2 _ _ hL.r.r.l (g3 _ _ hL.r.r.r ⟨h1, h'⟩))
    · exact h.elim
  | mkm v => cases v <;> exact ⟨_, h, fun _ _ _ _ _ h' => h'⟩
  | mget q ks z ok x k =>
    simp only [opW] at h
    split at h
    · rename_i he
      split at h
      case h_2 => exact h.elim
      rename_i kv hkv
      obtain ⟨h1, h2⟩ := h
      refine ⟨_, h2, fun L' M' K' hL hM h' => ?_⟩
      have hL : Agree L L' (rdX x ++ rdX k) := hL
      simp only [opW, env_loc hL.l, he, env_loc hL.r, hkv]
      exact ⟨h1, h'⟩
    · rename_i b he
      split at h
      · rename_i es c hrow
        split at h
        case h_2 => exact h.elim
        rename_i kv hkv
        obtain ⟨h1, r, hr, hK⟩ := h
        rw [V.force_eq] at hK
        refine ⟨_, hK, fun L' M' K' hL hM h' => ?_⟩
        have hL : Agree L L' (rdX x ++ rdX k) := hL
        simp only [opW, env_loc hL.l, he, env_loc hL.r, hkv, hM b (by simp), hrow]
        exact ⟨h1, r, hr, by rw [V.force_eq]; exact h'⟩
      · rename_i es c hrow
        split at h
        case h_2 => exact h.elim
        rename_i kv hkv
        obtain ⟨h1, r, hr, hK⟩ := h
        rw [V.force_eq] at hK
        refine ⟨_, hK, fun L' M' K' hL hM h' => ?_⟩
        have hL : Agree L L' (rdX x ++ rdX k) := hL
        simp only [opW, env_loc hL.l, he, env_loc hL.r, hkv, hM b (by simp), hrow]
        exact ⟨h1, r, hr, by rw [V.force_eq]; exact h'⟩
      · exact h.elim
    · exact h.elim
  | mset q ks x k v =>
    simp only [opW] at h
    split at h
    · rename_i b he
      split at h
      · rename_i es c hrow
        split at h
        case h_2 => exact h.elim
        rename_i kv hkv
        split at h
        case h_2 => exact h.elim
        rename_i v' hv'
        obtain ⟨h1, es', c', hp, hK⟩ := h
        refine ⟨_, hK, fun L' M' K' hL hM h' => ?_⟩
        have hL : Agree L L' (rdX x ++ (rdX k ++ rdX v)) := hL
        simp only [opW, env_loc hL.l, he, env_loc hL.r.l, hkv, env_loc hL.r.r, hv', hM b (by simp), hrow]
        exact ⟨h1, es', c', hp, h'⟩
      · rename_i es c hrow
        split at h
        case h_2 => exact h.elim
        rename_i kv hkv
        split at h
        case h_2 => exact h.elim
        rename_i v' hv'
        obtain ⟨h1, es', c', hp, hK⟩ := h
        refine ⟨_, hK, fun L' M' K' hL hM h' => ?_⟩
        have hL : Agree L L' (rdX x ++ (rdX k ++ rdX v)) := hL
        simp only [opW, env_loc hL.l, he, env_loc hL.r.l, hkv, env_loc hL.r.r, hv', hM b (by simp), hrow]
        exact ⟨h1, es', c', hp, h'⟩
      · exact h.elim
    · exact h.elim
  | mdel q ks x k =>
    simp only [opW] at h
    split at h
    · rename_i b he
      split at h
      · rename_i es c hrow
        split at h
        case h_2 => exact h.elim
        rename_i kv hkv
        obtain ⟨h1, es', hp, hK⟩ := h
        refine ⟨_, hK, fun L' M' K' hL hM h' => ?_⟩
        have hL : Agree L L' (rdX x ++ rdX k) := hL
        simp only [opW, env_loc hL.l, he, env_loc hL.r, hkv, hM b (by simp), hrow]
        exact ⟨h1, es', hp, h'⟩
      · rename_i es c hrow
        split at h
        case h_2 => exact h.elim
        rename_i kv hkv
        obtain ⟨h1, es', hp, hK⟩ := h
        refine ⟨_, hK, fun L' M' K' hL hM h' => ?_⟩
        have hL : Agree L L' (rdX x ++ rdX k) := hL
        simp only [opW, env_loc hL.l, he, env_loc hL.r, hkv, hM b (by simp), hrow]
        exact ⟨h1, es', hp, h'⟩
      · exact h.elim
    · exact h.elim
  | mlen x =>
    simp only [opW] at h
    split at h
    · rename_i he; exact ⟨_, h, fun L' M' K' hL hM h' => by simp only [opW, env_loc (show Agree L L' (rdX x) from hL), he]; exact h'⟩
    · rename_i b he
      split at h
      · rename_i es c hrow
        refine ⟨_, h, fun L' M' K' hL hM h' => ?_⟩
        simp only [opW, env_loc (show Agree L L' (rdX x) from hL), he, hM b (by simp), hrow]
        exact h'
      · rename_i es c hrow
        refine ⟨_, h, fun L' M' K' hL hM h' => ?_⟩
        simp only [opW, env_loc (show Agree L L' (rdX x) from hL), he, hM b (by simp), hrow]
        exact h'
      · exact h.elim
    · exact h.elim
  | rng x =>
    simp only [opW] at h
    split at h
    · rename_i he; exact ⟨_, h, fun L' M' K' hL hM h' => by simp only [opW, env_loc (show Agree L L' (rdX x) from hL), he]; exact h'⟩
    · rename_i b he
      split at h
      case h_2 => exact h.elim
      rename_i es c hrow
      refine ⟨_, h, fun L' M' K' hL hM h' => ?_⟩
      simp only [opW, env_loc (show Agree L L' (rdX x) from hL), he, hM b (by simp), hrow]
      exact h'
    · exact h.elim
  | nxt x => simp only [opW] at h
  | ent x =>
    simp only [opW] at h
    split at h
    case h_2 => exact h.elim
    rename_i i he
    split at h
    case h_2 => exact h.elim
    rename_i b since seen st hrow
    split at h
    case h_2 => exact h.elim
    rename_i es c hrowm
    obtain ⟨h1, k, e, h2, h3, hK⟩ := h
    refine ⟨_, hK, fun L' M' K' hL hM h' => ?_⟩
    simp only [opW, env_loc (show Agree L L' (rdX x) from hL), he, hM i (by simp), hrow, hM b (by simp), hrowm]
    exact ⟨h1, k, e, h2, h3, h'⟩
  | mki t x =>
    simp only [opW] at h
    split at h
    · rename_i k m he; exact ⟨_, h, fun L' M' K' hL hM h' => by simp only [opW, env_loc (show Agree L L' (rdX x) from hL), he]; exact h'⟩
    · exact h.elim
  | ifn neg x =>
    simp only [opW] at h
    split at h
    · rename_i he; exact ⟨_, h, fun L' M' K' hL hM h' => by simp only [opW, env_loc (show Agree L L' (rdX x) from hL), he]; exact h'⟩
    · rename_i tt k m he; exact ⟨_, h, fun L' M' K' hL hM h' => by simp only [opW, env_loc (show Agree L L' (rdX x) from hL), he]; exact h'⟩
    · exact h.elim
  | bad => exact h.elim
end Go.Proofs.Ytmdfkggflainbaa.VM
