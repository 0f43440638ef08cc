/- The evaluator: each operation does in the model what it does there, in one. -/
import Derived.Test.YtmdfkggflainbaaVmK
namespace Go.Proofs.Ytmdfkggflainbaa.VM
open Go.RowKit
set_option linter.unusedVariables false
set_option linter.unusedSimpArgs false
variable {G : Ground} {P : Program} {ds : List Deferred} {eqs : List Nat} {news : FuncId → Nat} {ρ : PMap} {M : List Row} {w : World} {sl : Env} {a : Act} {n nid : Nat} {o : Oper} {nw : Nat} {K : Eff → Prop}
theorem run_builtin {c : Call} {b : Builtin} {f : Sem Value} {u : Value} (ho : o.op = .call c) (hc : c.callee = .builtin b) (hb : ∀ cs, builtin b c.argTypes o.type cs (c.args.map a.eval) = (do pure (.value (← f)))) (hf : f.run P w = .ok u w) :
    (execOp a.eval o).run P w = .ok (.value u) w := by
  unfold execOp; rw [ho]
  simp only [resolve, hc, Sem.run_bind, Sem.run_pure, Result.andThen_ok, invoke, hb]
  simp [hf]
theorem arr1 {α β : Type} {f : α → β} {c : Array α} {x : α} (h : c.toList = [x]) : c.map f = #[f x] := by
  have : c = #[x] := by cases c; simp_all
  rw [this]; simp
theorem arr1' {α : Type} {c : Array α} {x : α} (h : c.toList = [x]) : c = #[x] := by cases c; simp_all
theorem arr2 {α β : Type} {f : α → β} {c : Array α} {x y : α} (h : c.toList = [x, y]) : c.map f = #[f x, f y] := by
  have : c = #[x, y] := by cases c; simp_all
  rw [this]; simp
theorem len_good {c : Call} {x : Operand} {t : TypeId} {vx : VX} {q : Bool} (ho : o.op = .call c) (hc : c.callee = .builtin .len) (ha : c.args.toList = [x]) (ht : c.argTypes.toList = [t]) (hx : cX x = some vx)
    (hu : (q = false ∧ P.underlying t = some .string) ∨ (q = true ∧ ∃ e, P.underlying t = some (.slice e))) (hS : SlotsOk ρ n ds sl a) (hR : Rep ρ M w) (h : opW G P false sl M nid (.len q vx) K) : Good P o a ρ M w nid nw K := by
  have run {u : Value} (hf : (Builtin.len_ #[t] o.type #[a.eval x]).run P w = .ok u w) : (execOp a.eval o).run P w = .ok (.value u) w :=
    run_builtin (f := Builtin.len_ #[t] o.type #[a.eval x]) ho hc (fun cs => by rw [arr1 ha, arr1' ht]; rfl) hf
  rcases hu with ⟨rfl, hu⟩ | ⟨rfl, e, hu⟩
  · simp only [opW] at h
    split at h
    · rename_i s he
      have hA : a.eval x = .string s := env_is hS hx he
      exact good_read hR (run (by rw [hA]; simp [Builtin.len_, run_underlying hu]; rfl)) h rfl
    · exact h.elim
  · simp only [opW] at h
    split at h
    · rename_i b off m cc he
      obtain ⟨p, ad, cap, hp, hv, _⟩ := env_is hS hx he
      exact good_read hR (run (by rw [hv]; simp [Builtin.len_, run_underlying hu]; rfl)) h rfl
    · rename_i he
      have hA : a.eval x = .slice none 0 0 := env_is hS hx he
      exact good_read hR (run (by rw [hA]; simp [Builtin.len_, run_underlying hu]; rfl)) h rfl
    · exact h.elim
theorem lenc_good {c : Call} {x : Operand} {t e : TypeId} {m : Nat} (ho : o.op = .call c) (hc : c.callee = .builtin .len) (ha : c.args.toList = [x]) (ht : c.argTypes.toList = [t]) (hu : P.underlying t = some (.array m e))
    (hR : Rep ρ M w) (h : K (val1 (vI .i64 m))) : Good P o a ρ M w nid nw K :=
  good_read hR (run_builtin (f := Builtin.len_ #[t] o.type #[a.eval x]) ho hc (fun cs => by rw [arr1 ha, arr1' ht]; rfl) (by simp [Builtin.len_, run_underlying hu]; rfl)) h rfl
theorem mnx_good {c : Call} {x y : Operand} {mx : Bool} {vx vy : VX} (ho : o.op = .call c) (hc : c.callee = .builtin (if mx then .max else .min)) (ha : c.args.toList = [x, y]) (hx : cX x = some vx) (hy : cX y = some vy)
    (hS : SlotsOk ρ n ds sl a) (hR : Rep ρ M w) (h : opW G P false sl M nid (.mnx mx vx vy) K) : Good P o a ρ M w nid nw K := by
  simp only [opW] at h
  split at h
  · rename_i k p he
    split at h
    · rename_i k' q he'
      obtain ⟨hk, h⟩ := h
      subst hk
      have hA : a.eval x = .int k p := env_is hS hx he
      have hB : a.eval y = .int k q := env_is hS hy he'
      cases mx with
      | true =>
        refine good_read hR (u := .int k (max p q)) (run_builtin (f := Builtin.max_ c.argTypes o.type #[a.eval x, a.eval y]) ho hc (fun cs => by rw [arr2 ha]; rfl) ?_) h rfl
        rw [hA, hB]
        have : (if q > p then q else p) = max p q := by split <;> omega
        simp only [Builtin.max_, List.foldlM_cons, List.foldlM_nil, Builtin.max2, Sem.run_bind, Sem.run_pure, Result.andThen_ok, this]
      | false =>
        refine good_read hR (u := .int k (min p q)) (run_builtin (f := Builtin.min_ c.argTypes o.type #[a.eval x, a.eval y]) ho hc (fun cs => by rw [arr2 ha]; rfl) ?_) h rfl
        rw [hA, hB]
        have : (if q < p then q else p) = min p q := by split <;> omega
        simp only [Builtin.min_, List.foldlM_cons, List.foldlM_nil, Builtin.min2, Sem.run_bind, Sem.run_pure, Result.andThen_ok, this]
    · exact h.elim
  · exact h.elim
theorem svOf_flat {v : Value} {s : SV} (h : svOf v = some s) : s.flat = true := by
  unfold svOf at h
  split at h <;> cases h <;> rfl
theorem svsOf_flat : ∀ {l : List Value} {c : List SV}, svsOf l = some c → ∀ i s, nth c i = some s → s.flat = true
  | [], c, h, i, s, hi => by simp only [svsOf, Option.some.injEq] at h; subst h; simp [nth] at hi
  | v :: l, c, h, i, s, hi => by
    simp only [svsOf] at h
    split at h
    · rename_i t r h1 h2
      simp only [Option.some.injEq] at h
      subst h
      cases i with
      | zero => simp only [nth, Option.some.injEq] at hi; subst hi; exact svOf_flat h1
      | succ i => exact svsOf_flat h2 i s hi
    · cases h
theorem mks_good {t e : TypeId} {x y : Operand} {vx vy : VX} {i : TypeInfo} {z : List SV} (ho : o.op = .makeSlice t x y) (hu : P.underlying t = some (.slice e)) (hi : P.info? e = some i) (hz : zeroL P e = some z) (hlz : lenS z = i.size) (hby : 1 ≤ i.bytes)
    (hx : cX x = some vx) (hy : cX y = some vy) (hS : SlotsOk ρ n ds sl a) (hR : Rep ρ M w) (hn : ρ nid = none) (hM : nid < lenR M) (hd : rowAt M nid = .dead) (h : opW G P false sl M nid (.mks i.size i.bytes z vx vy) K) : Good P o a ρ M w nid 1 K := by
  obtain ⟨i', zz, hi', hzz, hzl⟩ := zeroL_some hz
  rw [hi] at hi'; cases hi'
  simp only [opW] at h
  split at h
  · rename_i k p he
    split at h
    · rename_i k' q he'
      obtain ⟨⟨h0, h1, h2⟩, hK⟩ := h
      have hA : a.eval x = .int k p := env_is hS hx he
      have hB : a.eval y = .int k' q := env_is hS hy he'
      have hb1 : (1 : Int) ≤ i.bytes := by omega
      have hq : q ≤ q * i.bytes := by
        have := Int.mul_le_mul_of_nonneg_left hb1 (show (0 : Int) ≤ q by omega)
        omega
      have hrun := run_make (P := P) w t e i zz hu hi hzz k k' p q h0 h1 (by rw [Int.mul_comm]; omega) (by omega)
      have hzL := zeros_isL (svsOf_is (ρ := ρ) hzl) q.toNat
      rw [hlz] at hzL
      have hC := cells_of_isL (c := madeCells zz.cells (q.toNat * i.size)) hzL
      refine good_new (w' := w.alloc (.cells (madeCells zz.cells (q.toNat * i.size)) e)) hR hn hM hd (run_v (f := Instr.makeSlice t (a.eval x) (a.eval y)) (by unfold execOp; rw [ho]) (by rw [hA, hB]; exact hrun)) rfl rfl rfl rfl (.inl rfl) hK hC.1 hC.2 (fun _ j s hj => ?_)
        ⟨_, _, q.toNat, upd_same _ _ _, rfl, .inr rfl, by omega, rfl⟩
      have hlt := nth_lt hj
      rw [lenS_repeatL] at hlt
      rw [nth_repeatL _ _ _ hlt] at hj
      exact svsOf_flat hzl _ s hj
    · exact h.elim
  · exact h.elim
/-! structs are alike -/
def Repr (ρ : PMap) (sct : Bool) (l : List SV) (v : Value) : Prop := match sct with
  | true => ∃ c, v = .agg c ∧ isL ρ l c.toList
  | false => ∃ s, l = [s] ∧ s.Is ρ v
def lenK : List CK → Nat := List.length
theorem eqCells_append : ∀ {k1 k2 : List CK} {l m : List SV} {c : Bool}, eqCells (k1 ++ k2) l m = some c →
    ∃ l1 l2 m1 m2 c1 c2, l = l1 ++ l2 ∧ m = m1 ++ m2 ∧ lenS l1 = k1.length ∧ lenS m1 = k1.length ∧ eqCells k1 l1 m1 = some c1 ∧ eqCells k2 l2 m2 = some c2 ∧ c = (c1 && c2)
  | [], k2, l, m, c, h => ⟨[], l, [], m, true, c, rfl, rfl, rfl, rfl, rfl, h, by simp⟩
  | .int q :: k1, k2, l, m, c, h => by
    simp only [List.cons_append] at h
    unfold eqCells at h
    split at h
    · simp_all
    · rename_i q' ks k x l' k' y m' heq
      simp only [List.cons.injEq, CK.int.injEq] at heq
      obtain ⟨rfl, rfl⟩ := heq
      split at h
      · rename_i cc d1 d2 hcc
        cases h
        obtain ⟨l1, l2, m1, m2, c1, c2, e1, e2, e3, e4, e5, e6, e7⟩ := eqCells_append hcc
        refine ⟨.int k x :: l1, l2, .int k' y :: m1, m2, ((x == y) && c1), c2, by simp [e1], by simp [e2], by simp [lenS, e3], by simp [lenS, e4], ?_, e6, by rw [e7, Bool.and_assoc]⟩
        simp only [eqCells, d1, d2, e5]
      · cases h
    · simp_all
    · simp_all
    · cases h
  | .bool :: k1, k2, l, m, c, h => by
    simp only [List.cons_append] at h
    unfold eqCells at h
    split at h
    · simp_all
    · simp_all
    · rename_i ks x l' y m' heq
      simp only [List.cons.injEq, true_and] at heq
      subst heq
      split at h
      · rename_i cc hcc
        cases h
        obtain ⟨l1, l2, m1, m2, c1, c2, e1, e2, e3, e4, e5, e6, e7⟩ := eqCells_append hcc
        refine ⟨.bool x :: l1, l2, .bool y :: m1, m2, ((x == y) && c1), c2, by simp [e1], by simp [e2], by simp [lenS, e3], by simp [lenS, e4], ?_, e6, by rw [e7, Bool.and_assoc]⟩
        simp only [eqCells, e5]
      · cases h
    · simp_all
    · cases h
  | .str :: k1, k2, l, m, c, h => by
    simp only [List.cons_append] at h
    unfold eqCells at h
    split at h
    · simp_all
    · simp_all
    · simp_all
    · rename_i ks x l' y m' heq
      simp only [List.cons.injEq, true_and] at heq
      subst heq
      split at h
      · rename_i cc hcc
        cases h
        obtain ⟨l1, l2, m1, m2, c1, c2, e1, e2, e3, e4, e5, e6, e7⟩ := eqCells_append hcc
        refine ⟨.str x :: l1, l2, .str y :: m1, m2, ((x.toList == y.toList) && c1), c2, by simp [e1], by simp [e2], by simp [lenS, e3], by simp [lenS, e4], ?_, e6, by rw [e7, Bool.and_assoc]⟩
        simp only [eqCells, e5]
      · cases h
    · cases h
theorem dropN_append : ∀ (l m : List SV), dropN (l ++ m) (lenS l) = m
  | [], m => by simp [dropN, lenS]
  | x :: l, m => by simp only [List.cons_append, lenS, dropN]; exact dropN_append l m
theorem takeN_append : ∀ (l m : List SV), takeN (l ++ m) (lenS l) = some l
  | [], m => by cases m <;> rfl
  | x :: l, m => by simp only [List.cons_append, lenS, takeN, takeN_append l m]
theorem getN_mid (l1 l2 l3 : List SV) : getN (l1 ++ (l2 ++ l3)) (lenS l1) (lenS l2) = some l2 := by
  unfold getN; rw [dropN_append]; exact takeN_append _ _
def Known (P : Program) (eqs : List Nat) : Prop := ∀ t, mem t eqs = true → P.stoodInHeld t = false ∧ P.eqGuardType P.depth t = false
theorem fieldsOf_eq {t : TypeId} {fs : Array Field} (h : P.underlying t = some (.struct fs)) : P.fieldsOf t = fs := by simp [Program.fieldsOf, h]
theorem eq_fields (F : TypeId → Option (List CK)) (d : Nat)
    (ih : ∀ t ks l m c x y w, F t = some ks → eqCells ks l m = some c → Repr ρ (isSct (P.underlying t)) l x → Repr ρ (isSct (P.underlying t)) m y → (Op.equalIn d t x y).run P w = .ok c w)
    (hsz : ∀ t ks, F t = some ks → isSct (P.underlying t) = false → ks.length = 1 ∧ aggT P t = some none ∨ (P.info? t) = none)
    (hag : ∀ t ks i, F t = some ks → isSct (P.underlying t) = true → P.info? t = some i → i.size = ks.length → aggT P t = some (some ks.length)) :
    ∀ (fs : List Field) (o : Nat) (ks : List CK) (l0 m0 l m : List SV) (c : Bool) (xs ys : Array Value) (w : World), fieldsKs P F fs o = some ks → lenS l0 = o → lenS m0 = o → eqCells ks l m = some c →
      isL ρ (l0 ++ l) xs.toList → isL ρ (m0 ++ m) ys.toList → (Op.eqFields d xs ys fs).run P w = .ok c w
  | [], o, ks, l0, m0, l, m, c, xs, ys, w, h, _, _, he, _, _ => by
    cases h
    cases l <;> cases m <;> simp [eqCells] at he
    subst he
    simp [Op.eqFields]
  | f :: fs, o, ks, l0, m0, l, m, c, xs, ys, w, h, hl0, hm0, he, hx, hy => by
    simp only [fieldsKs] at h
    split at h
    · rename_i k1 i b1 b2 hF hi
      split at h
      · rename_i r b3 hr
        cases h
        have e1 := Nat.eq_of_beq_eq_true b1
        have e3 := Nat.eq_of_beq_eq_true b3
        obtain ⟨l1, l2, m1, m2, c1, c2, rfl, rfl, g3, g4, g5, g6, rfl⟩ := eqCells_append he
        have hn' : f.name ≠ "_" := by simpa using b2
        have hrest := eq_fields F d ih hsz hag fs (o + k1.length) r (l0 ++ l1) (m0 ++ m1) l2 m2 c2 xs ys w hr (by rw [lenS_append]; omega) (by rw [lenS_append]; omega) g6 (by rw [List.append_assoc]; exact hx) (by rw [List.append_assoc]; exact hy)
        have parts : ∃ u v, (part f.type xs f.offset).run P w = .ok u w ∧ (part f.type ys f.offset).run P w = .ok v w ∧ (Op.equalIn d f.type u v).run P w = .ok c1 w := by
          cases hs : isSct (P.underlying f.type) with
          | true =>
            have ha := hag _ _ _ hF hs hi e3
            obtain ⟨p1, p2⟩ := part_some (w := w) (m := l1) (k := f.offset) ha hx (by rw [e1, ← hl0, ← g3]; exact getN_mid _ _ _)
            obtain ⟨q1, q2⟩ := part_some (w := w) (m := m1) (k := f.offset) ha hy (by rw [e1, ← hm0, ← g4]; exact getN_mid _ _ _)
            exact ⟨_, _, p1, q1, ih _ _ _ _ _ _ _ w hF g5 (by rw [hs]; exact ⟨_, rfl, p2⟩) (by rw [hs]; exact ⟨_, rfl, q2⟩)⟩
          | false =>
            rcases hsz _ _ hF hs with ⟨h1, ha⟩ | h1
            · rw [h1] at g3 g4
              cases l1 with
              | nil => simp [lenS] at g3
              | cons s l1 =>
                cases l1 with
                | cons => simp [lenS] at g3
                | nil =>
                  cases m1 with
                  | nil => simp [lenS] at g4
                  | cons s' m1 =>
                    cases m1 with
                    | cons => simp [lenS] at g4
                    | nil =>
                      obtain ⟨u, p1, p2⟩ := part_none (w := w) (s := s) (k := f.offset) ha hx (by rw [nth_append, if_neg (by omega), e1, ← hl0, Nat.sub_self]; rfl)
                      obtain ⟨v, q1, q2⟩ := part_none (w := w) (s := s') (k := f.offset) ha hy (by rw [nth_append, if_neg (by omega), e1, ← hm0, Nat.sub_self]; rfl)
                      exact ⟨u, v, p1, q1, ih _ _ _ _ _ _ _ w hF g5 (by rw [hs]; exact ⟨_, rfl, p2⟩) (by rw [hs]; exact ⟨_, rfl, q2⟩)⟩
            · rw [h1] at hi; cases hi
        obtain ⟨u, v, p1, p2, p3⟩ := parts
        rw [Op.eqFields]
        simp only [if_pos hn', Sem.run_bind, p1, p2, p3, Result.andThen_ok]
        cases c1
        · simp
        · simpa using hrest
      · cases h
    · cases h
theorem eq_flat (hk : Known P eqs) : ∀ (d d' : Nat), d ≤ d' → ∀ t ks l m c x y w, flatKs P eqs d t = some ks → eqCells ks l m = some c → Repr ρ (isSct (P.underlying t)) l x → Repr ρ (isSct (P.underlying t)) m y →
    (Op.equalIn d' t x y).run P w = .ok c w
  | 0, _, _, _, _, _, _, _, _, _, _, h, _, _, _ => by simp [flatKs] at h
  | d + 1, 0, hd, _, _, _, _, _, _, _, _, _, _, _, _ => by omega
  | d + 1, d' + 1, hd, t, ks, l, m, c, x, y, w, h, he, hx, hy => by
    simp only [flatKs] at h
    split at h
    · rename_i k hu
      cases h
      rw [hu] at hx hy
      obtain ⟨s, rfl, hs⟩ := hx
      obtain ⟨s', rfl, hs'⟩ := hy
      cases s with
      | int a p =>
        cases s' with
        | int b q =>
          simp only [eqCells] at he
          split at he
          · rename_i cc e1 e2 e3
            simp only [decide_eq_true_eq] at e1 e2
            subst e1; subst e2
            cases e3
            cases he
            cases hs; cases hs'
            simp [Op.equalIn, run_underlying hu]
          · cases he
        | _ => simp [eqCells] at he
      | _ => cases s' <;> simp [eqCells] at he
    · rename_i hu
      cases h
      rw [hu] at hx hy
      obtain ⟨s, rfl, hs⟩ := hx
      obtain ⟨s', rfl, hs'⟩ := hy
      cases s <;> cases s' <;> simp [eqCells] at he
      subst he
      cases hs; cases hs'
      simp [Op.equalIn, run_underlying hu]
    · rename_i hu
      cases h
      rw [hu] at hx hy
      obtain ⟨s, rfl, hs⟩ := hx
      obtain ⟨s', rfl, hs'⟩ := hy
      cases s <;> cases s' <;> simp [eqCells] at he
      subst he
      cases hs; cases hs'
      exact run_equalIn_string w d' t _ _ hu
    · rename_i fs hu
      split at h
      · cases h
      · rename_i hm
        rw [hu] at hx hy
        obtain ⟨xs, rfl, hxs⟩ := hx
        obtain ⟨ys, rfl, hys⟩ := hy
        have hf := fieldsOf_eq hu
        rw [run_equalIn_struct (P := P) w d' t xs ys (by rw [hf]; exact hu) (hk t hm).1, hf]
        refine eq_fields (ρ := ρ) (fun t => flatKs P eqs d t) d' (fun t ks l m c x y w g1 g2 g3 g4 => eq_flat hk d d' (by omega) t ks l m c x y w g1 g2 g3 g4) (fun t ks g hs => ?_) (fun t ks i g hs hi hsz => ?_) fs.toList 0 ks [] [] l m c xs ys w h rfl rfl he hxs hys
        · cases hi : P.info? t with
          | none => exact .inr rfl
          | some i =>
            left
            cases d with
            | zero => simp [flatKs] at g
            | succ d =>
              simp only [flatKs] at g
              split at g
              · rename_i hu; cases g; exact ⟨rfl, by simp [aggT, hu, hi]⟩
              · rename_i hu; cases g; exact ⟨rfl, by simp [aggT, hu, hi]⟩
              · rename_i hu; cases g; exact ⟨rfl, by simp [aggT, hu, hi]⟩
              · rename_i hu; rw [hu] at hs; cases hs
              · cases g
        · cases d with
          | zero => simp [flatKs] at g
          | succ d =>
            simp only [flatKs] at g
            split at g
            · rename_i hu; rw [hu] at hs; cases hs
            · rename_i hu; rw [hu] at hs; cases hs
            · rename_i hu; rw [hu] at hs; cases hs
            · rename_i hu; simp [aggT, hu, hi, hsz]
            · cases g
    · cases h
theorem eqf_good (hk : Known P eqs) {neg : Bool} {t yt : TypeId} {x y : Operand} {vx vy : VX} {l m : List SV} {ks : List CK} {c : Bool} {fs : Array Field} (ho : o.op = .binOp (if neg then .neq else .eql) t x y yt) (hu : P.underlying t = some (.struct fs))
    (hm : mem t eqs = true) (hks : flatKs P eqs 20 t = some ks) (hx : cX x = some vx) (hy : cX y = some vy) (ha : env sl vx = some (.p (.a l))) (hb : env sl vy = some (.p (.a m))) (hc : eqCells ks l m = some c)
    (hS : SlotsOk ρ n ds sl a) (hR : Rep ρ M w) (h : K (val1 (vB (negB neg c)))) : Good P o a ρ M w nid nw K := by
  obtain ⟨xs, hA, hA'⟩ := env_is hS hx ha
  obtain ⟨ys, hB, hB'⟩ := env_is hS hy hb
  have hE : (Op.equal t (a.eval x) (a.eval y)).run P w = .ok c w :=
    eq_flat (ρ := ρ) hk 20 10000 (by omega) t ks l m c _ _ w hks hc (by rw [hu]; exact ⟨xs, hA, hA'⟩) (by rw [hu]; exact ⟨ys, hB, hB'⟩)
  refine good_read hR (u := .bool (negB neg c)) (run_binOp ho (by rw [hA, hB]; exact run_eqGuard_agg w _ t x y xs ys (hk t hm).2) (run_eql_of hE ?_ ?_ ?_ ?_)) h rfl
  all_goals (rw [hA]; simp)
end Go.Proofs.Ytmdfkggflainbaa.VM
