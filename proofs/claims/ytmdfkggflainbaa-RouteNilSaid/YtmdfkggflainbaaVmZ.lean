/- The evaluator: operations on maps, copies. -/
import Derived.Test.YtmdfkggflainbaaVmY
import Derived.RangeFuncOwn
namespace Go.Proofs.Ytmdfkggflainbaa.VM
open Go.RowKit
set_option linter.unusedVariables false
set_option linter.unusedSimpArgs false
variable {G : Ground} {P : Program} {ds : List Deferred} {eqs : List Nat} {news : FuncId → Nat} {ρ : PMap} {M : List Row} {w : World} {sl : Env} {a : Act} {n nid : Nat} {o : Oper} {nw : Nat} {K : Eff → Prop}
theorem mapT_some {t : TypeId} {q : Bool} {ks : List CK} {z : PV} (h : mapT P eqs t = some (q, ks, z)) :
    ∃ k e, P.underlying t = some (.map k e) ∧ flatKs P eqs 20 k = some ks ∧ isSct (P.underlying k) = q ∧ zeroP P e = some z ∧ flatP z = true := by
  unfold mapT at h
  split at h
  · rename_i k e hu
    split at h
    · rename_i ks' z' h1 h2
      split at h
      · rename_i h3
        simp only [Option.some.injEq, Prod.mk.injEq] at h
        obtain ⟨rfl, rfl, rfl⟩ := h
        exact ⟨k, e, hu, h1, rfl, h2, h3⟩
      · cases h
    · cases h
  · cases h
theorem run_zero {t : TypeId} {z : PV} (h : zeroP P t = some z) : (zeroValue t).run P w = .ok (pvVal z) w := by
  unfold zeroP at h
  split at h
  · rename_i i hi
    split at h
    · rename_i v hv
      rw [pvOf_val h]
      simp [zeroValue, typeInfo, hi, hv]
    · cases h
  · cases h
theorem key_val {q : Bool} {ks : List CK} {k : PV} {v : Value} (hk : keyOk q ks k = true) (h : k.Is ρ v) : v = pvVal k := (pv_iff (keyOk_flat hk)).1 h
/-- Is it a key of its type? -/
theorem run_fields {em : Bool} {n : Nat} {cs : Array Value} : ∀ (fs : List Field), (∀ f ∈ fs, f.name ≠ "_" → ∃ u, (part f.type cs f.offset).run P w = .ok u w ∧ (Instr.checkKey em n f.type u).run P w = .ok () w) →
    (forIn fs PUnit.unit fun f __s =>
            if f.name ≠ "_" then do
              let __do_lift ← part f.type cs f.offset
              Instr.checkKey em n f.type __do_lift
              pure (ForInStep.yield PUnit.unit)
            else pure (ForInStep.yield PUnit.unit) : Sem PUnit).run P w = .ok PUnit.unit w
  | [], _ => rfl
  | f :: fs, h => by
    simp only [List.forIn_cons, Sem.run_bind]
    by_cases hn : f.name = "_"
    · simp only [hn, ne_eq, not_true_eq_false, if_false, Sem.run_pure, Result.andThen_ok]
      exact run_fields fs fun g hg => h g (.tail _ hg)
    · obtain ⟨u, h1, h2⟩ := h f (.head _) hn
      simp only [ne_eq, hn, not_false_eq_true, if_true, Sem.run_bind, h1, h2, Sem.run_pure, Result.andThen_ok]
      exact run_fields fs fun g hg => h g (.tail _ hg)
theorem fields_key (F : TypeId → Option (List CK)) {em : Bool} {n : Nat} {xs : Array Value}
    (ih : ∀ t ks l x, F t = some ks → cellsK ks l = true → Repr ρ (isSct (P.underlying t)) l x → (Instr.checkKey em n t x).run P w = .ok () w)
    (hsz : ∀ t ks, F t = some ks → isSct (P.underlying t) = false → ks.length = 1 ∧ aggT P t = some none ∨ (P.info? t) = none)
    (hag : ∀ t ks i, F t = some ks → isSct (P.underlying t) = true → P.info? t = some i → i.size = ks.length → aggT P t = some (some ks.length)) :
    ∀ (fs : List Field) (o : Nat) (ks : List CK) (l0 l : List SV), fieldsKs P F fs o = some ks → lenS l0 = o → cellsK ks l = true → isL ρ (l0 ++ l) xs.toList →
      ∀ f ∈ fs, f.name ≠ "_" → ∃ u, (part f.type xs f.offset).run P w = .ok u w ∧ (Instr.checkKey em n f.type u).run P w = .ok () w
  | [], _, _, _, _, _, _, _, _, f, hf, _ => by cases hf
  | f :: fs, o, ks, l0, l, h, hl0, he, hx, g, hg, hgn => by
    simp only [fieldsKs] at h
    split at h
    · rename_i k1 i b1 b2 hF hi
      split at h
      · rename_i r b3 hr
        cases h
        have e1 := Nat.eq_of_beq_eq_true b1
        have e3 := Nat.eq_of_beq_eq_true b3
        obtain ⟨l1, l2, rfl, g3, g5, g6⟩ := cellsK_append he
        rcases List.mem_cons.1 hg with rfl | hg
        · cases hs : isSct (P.underlying g.type) with
          | true =>
            have ha := hag _ _ _ hF hs hi e3
            obtain ⟨p1, p2⟩ := part_some (w := w) (m := l1) (k := g.offset) ha hx (by rw [e1, ← hl0, ← g3]; exact getN_mid _ _ _)
            exact ⟨_, p1, ih _ _ _ _ hF g5 (by rw [hs]; exact ⟨_, rfl, p2⟩)⟩
          | false =>
            rcases hsz _ _ hF hs with ⟨h1, ha⟩ | h1
            · rw [h1] at g3
              cases l1 with
              | nil => simp [lenS] at g3
              | cons s l1 =>
                cases l1 with
                | cons => simp [lenS] at g3
                | nil =>
                  obtain ⟨u, p1, p2⟩ := part_none (w := w) (s := s) (k := g.offset) ha hx (by rw [nth_append, if_neg (by omega), e1, ← hl0, Nat.sub_self]; rfl)
                  exact ⟨u, p1, ih _ _ _ _ hF g5 (by rw [hs]; exact ⟨_, rfl, p2⟩)⟩
            · rw [h1] at hi; cases hi
        · exact fields_key F ih hsz hag fs (o + k1.length) r (l0 ++ l1) l2 hr (by rw [lenS_append]; omega) g6 (by rw [List.append_assoc]; exact hx) g hg hgn
      · cases h
    · cases h
theorem check_flat {em : Bool} : ∀ (d d' : Nat), d ≤ d' → ∀ t ks l x, flatKs P eqs d t = some ks → cellsK ks l = true → Repr ρ (isSct (P.underlying t)) l x → (Instr.checkKey em d' t x).run P w = .ok () w
  | 0, _, _, _, _, _, _, h, _, _ => by simp [flatKs] at h
  | d + 1, 0, hd, _, _, _, _, _, _, _ => by omega
  | d + 1, d' + 1, hd, t, ks, l, x, h, he, hx => by
    simp only [flatKs] at h
    split at h
    · rename_i k hu
      simp [Instr.checkKey, run_underlying hu]
    · rename_i hu
      simp [Instr.checkKey, run_underlying hu]
    · rename_i hu
      simp [Instr.checkKey, run_underlying hu]
    · rename_i fs hu
      split at h
      · cases h
      · rename_i hm
        rw [hu] at hx
        obtain ⟨xs, rfl, hxs⟩ := hx
        have := fields_key (ρ := ρ) (P := P) (w := w) (xs := xs) (fun t => flatKs P eqs d t) (em := em) (n := d') (fun t ks l x g1 g2 g3 => check_flat d d' (by omega) t ks l x g1 g2 g3) (fun t ks g hs => ?_) (fun t ks i g hs hi hsz => ?_) fs.toList 0 ks [] l h rfl he hxs
        · simp only [Instr.checkKey, Sem.run_bind, run_underlying hu, Result.andThen_ok]
          rw [← Array.forIn_toList]
          rw [run_fields fs.toList this]
          rfl
        · cases hi : P.info? t with
          | none => exact .inr rfl
          | some i =>
            left
            cases d with
            | zero => simp [flatKs] at g
            | succ d =>
              simp only [flatKs] at g
              split at g
              · rename_i hu; cases g; exact ⟨rfl, by simp [aggT, hu, hi]⟩
              · rename_i hu; cases g; exact ⟨rfl, by simp [aggT, hu, hi]⟩
              · rename_i hu; cases g; exact ⟨rfl, by simp [aggT, hu, hi]⟩
              · rename_i hu; rw [hu] at hs; cases hs
              · cases g
        · cases d with
          | zero => simp [flatKs] at g
          | succ d =>
            simp only [flatKs] at g
            split at g
            · rename_i hu; rw [hu] at hs; cases hs
            · rename_i hu; rw [hu] at hs; cases hs
            · rename_i hu; rw [hu] at hs; cases hs
            · rename_i hu; simp [aggT, hu, hi, hsz]
            · cases g
    · cases h
theorem run_check {em : Bool} {kt : TypeId} {ks : List CK} {q : Bool} {k : PV} (hks : flatKs P eqs 20 kt = some ks) (hq : isSct (P.underlying kt) = q) (hk : keyOk q ks k = true) : (Instr.checkKey em 10000 kt (pvVal k)).run P w = .ok () w := by
  have hf := keyOk_flat hk
  refine check_flat (ρ := fun _ => none) 20 10000 (by omega) kt ks (kcells k) _ hks ?_ (repr_key hq hf ?_)
  · cases k <;> simp only [keyOk] at hk <;> split at hk <;> first | exact hk | cases hk
  · cases k <;> simp only [keyOk] at hk <;> split at hk <;> first | exact .inl ⟨rfl, _, rfl⟩ | exact .inr ⟨rfl, _, rfl⟩ | cases hk
/-! the operations -/
theorem run_bw {c : Call} {b : Builtin} {f : Sem Value} {u : Value} {w' : World} (ho : o.op = .call c) (hc : c.callee = .builtin b) (hb : ∀ cs, builtin b c.argTypes o.type cs (c.args.map a.eval) = (do pure (.value (← f)))) (hf : f.run P w = .ok u w') :
    (execOp a.eval o).run P w = .ok (.value u) w' := by
  unfold execOp; rw [ho]
  simp only [resolve, hc, Sem.run_bind, Sem.run_pure, Result.andThen_ok, invoke, hb]
  simp [hf]
theorem row_map {b : Nat} {es : List MEnt} {c : Nat} (hR : Rep ρ M w) (hrow : rowAt M b = .map es c) {p : Place} (hp : ρ b = some p) :
    w.heap[p.blk]? = some (.map (es.map MEnt.obj).toArray c) ∧ (∀ e ∈ es, flatP e.key = true ∧ flatP e.val = true) := by
  obtain ⟨q, hq, hr⟩ := hR.rows b (by rw [hrow]; rfl)
  rw [hp] at hq; cases hq
  rw [hrow] at hr
  obtain ⟨x, h1, h2, h3⟩ := hr
  exact ⟨by rw [h1, ← h2], h3⟩
/-- A map's block is written. -/
theorem map_write {b : Nat} {es es' : List MEnt} {c c' : Nat} {p : Place} (hR : Rep ρ M w) (hrow : rowAt M b = .map es c) (hp : ρ b = some p) (hf : ∀ e ∈ es', flatP e.key = true ∧ flatP e.val = true) :
    Rep ρ (setRow M b (.map es' c')) (w.putObj p.blk (.map (es'.map MEnt.obj).toArray c')) ∧ Ev ρ M w ρ (setRow M b (.map es' c')) (w.putObj p.blk (.map (es'.map MEnt.obj).toArray c')) := by
  have hb := (row_map hR hrow hp).1
  exact set_obj hR (by rw [hrow]; rfl) hp (by rw [hrow]; rfl) (by simp [World.putObj]) (fun k hk => World.putObj_heap_other hk) rfl rfl rfl ⟨_, World.putObj_heap_same (lt_of_heap hb), by simp, hf⟩ (fun k hk => hk)
theorem run_setObj' {r : Nat} {o o' : Obj} (h : w.heap[r]? = some o') (hc : o'.isCells = false) : (setObj r o).run P w = .ok () (w.putObj r o) := by
  cases o' <;> first | (simp [setObj, Sem.run, h, World.putObj]; done) | cases hc
theorem run_getObj' {r : Nat} {o : Obj} (h : w.heap[r]? = some o) (hc : o.isCells = false) : (getObj r).run P w = .ok o w := by
  cases o <;> first | (simp [getObj, Sem.run, h]; done) | cases hc
theorem mkm_good {v : Bool} {t k e : TypeId} (ho : o.op = .makeMap t none) (hR : Rep ρ M w) (hn : ρ nid = none) (hM : nid < lenR M) (hd : rowAt M nid = .dead) (hK : opW G P false sl M nid (.mkm v) K) : Good P o a ρ M w nid 1 K := by
  have hr : (Instr.makeMap t none).run P w = .ok (.map (some w.heap.size)) (w.alloc (.map #[] 0)) := by simp [Instr.makeMap]
  cases v with
  | false =>
    obtain ⟨g1, g2⟩ := new_obj (fin := 0) (r := .map [] 0) (w' := w.alloc (.map #[] 0)) hR hn hM hd rfl rfl rfl rfl ⟨#[], by show (w.heap.push _)[_]? = _; simp, rfl, fun e he => by cases he⟩ (fun k hk => hk)
    exact good_run (e := ⟨some (vO (.mp nid)), [], [.map [] 0], []⟩) (u := .map (some w.heap.size)) (run_v (f := Instr.makeMap t none) (by unfold execOp; rw [ho]; rfl) hr) hK g1 g2 ⟨_, upd_same _ _ _, rfl⟩ (fresh_of nid _)
  | true =>
    obtain ⟨g1, g2⟩ := new_obj (fin := 0) (r := .mapv [] 0) (w' := w.alloc (.map #[] 0)) hR hn hM hd rfl rfl rfl rfl ⟨#[], by show (w.heap.push _)[_]? = _; simp, rfl, fun e he => by cases he⟩ (fun k hk => hk)
    exact good_run (e := ⟨some (vO (.mp nid)), [], [.mapv [] 0], []⟩) (u := .map (some w.heap.size)) (run_v (f := Instr.makeMap t none) (by unfold execOp; rw [ho]; rfl) hr) hK g1 g2 ⟨_, upd_same _ _ _, rfl⟩ (fresh_of nid _)
/-! maps whose values may name memory -/
def atV (l : List MapEntry) (i : Nat) : Value := ((l[i]?).map (·.val)).getD undef
theorem run_asking' (hk : Known P eqs) {kt : TypeId} {ks : List CK} {q : Bool} {k : PV} (hks : flatKs P eqs 20 kt = some ks) (hq : isSct (P.underlying kt) = q) (fk : flatP k = true) : ∀ (es : List MEnt) (l : List MapEntry) (i : Nat) (r : Option (Nat × MEnt)), mat q ks k es i = some r → entsIs ρ es l → (∀ e ∈ es, flatP e.key = true) →
    (Instr.findAsking kt (pvVal k) l i).run P w = .ok (r.map fun x => (x.1, atV l (x.1 - i))) w
  | [], l, i, r, h, he, _ => by cases h; obtain rfl : l = [] := he; rfl
  | e :: es, l, i, r, h, he, hf => by
    obtain ⟨u, l', rfl, hu, hl⟩ := he
    simp only [mat] at h
    have ih := run_asking' hk hks hq fk es l' (i + 1)
    simp only [Instr.findAsking, Sem.run_bind]
    split at h
    · rename_i hc
      cases h
      rw [run_equal_key hk hks hq fk (hf e (.head _)) hc]
      simp [atV]
    · rename_i hc
      rw [run_equal_key hk hks hq fk (hf e (.head _)) hc]
      simp only [Result.andThen_ok, Bool.false_eq_true, if_false]
      rw [ih r h hl fun x hx => hf x (.tail _ hx)]
      cases r with
      | none => rfl
      | some x =>
        obtain ⟨h1, _⟩ := mat_at es (i + 1) h
        have : x.1 - i = (x.1 - (i + 1)) + 1 := by have : i + 1 ≤ x.1 := h1; omega
        simp only [Option.map_some, this, atV, List.getElem?_cons_succ]
    · cases h
theorem run_find' (hk : Known P eqs) {kt : TypeId} {ks : List CK} {q : Bool} {k : PV} (hks : flatKs P eqs 20 kt = some ks) (hq : isSct (P.underlying kt) = q) (fk : flatP k = true) (es : List MEnt) (l : List MapEntry) (r : Option (Nat × MEnt)) (h : mat q ks k es 0 = some r) (he : entsIs ρ es l) (hf : ∀ e ∈ es, flatP e.key = true) :
    (Instr.findKey kt (pvVal k) l).run P w = .ok (r.map fun x => (x.1, atV l x.1)) w := by
  have ask := run_asking' (w := w) hk hks hq fk es l 0 r h he hf
  simp only [Nat.sub_zero] at ask
  cases hu : P.underlying kt with
  | none => simp [flatKs, hu] at hks
  | some d =>
    by_cases hs : isSct (some d) = true
    · rw [run_findKey_eq w (by cases d <;> simp_all [isSct])]
      exact ask
    · have key : ∀ (es : List MEnt) (l : List MapEntry) (i : Nat) (r : Option (Nat × MEnt)), mat q ks k es i = some r → entsIs ρ es l → Instr.findNow d (pvVal k) l i = some (r.map fun x => (x.1, atV l (x.1 - i))) := by
        intro es
        induction es with
        | nil => intro l i r h he; cases h; obtain rfl : l = [] := he; rfl
        | cons e es ih =>
          intro l i r h he
          obtain ⟨u, l', rfl, hu', hl⟩ := he
          simp only [mat] at h
          have same : ∀ c, eqK q ks k e.key = some c → Instr.sameNow d (pvVal k) (pvVal e.key) = some c := fun c hc => by
            obtain ⟨h1, h2⟩ := eqK_cells hc
            rw [hu] at hq
            subst hq
            rcases h2 with ⟨_, s, t, e1, e2⟩ | ⟨h3, _⟩
            · rw [e1, e2] at h1 ⊢
              simp only [kcells] at h1
              simp only [flatKs, hu] at hks
              cases d <;> simp [isSct] at hs hks
              · subst hks
                cases s <;> cases t <;> simp [eqCells] at h1
                subst h1; rfl
              · subst hks
                cases s <;> cases t <;> simp only [eqCells] at h1 <;> try (cases h1; done)
                split at h1
                · rename_i g1 g2 g3
                  cases g3
                  simp only [decide_eq_true_eq] at g1 g2
                  subst g1; subst g2
                  cases h1
                  simp [pvVal, svVal, Instr.sameNow]
                · cases h1
              · subst hks
                cases s <;> cases t <;> simp [eqCells] at h1
                subst h1
                simp [pvVal, svVal, Instr.sameNow, toList_beq]
            · exact absurd h3 hs
          simp only [Instr.findNow]
          split at h
          · rename_i hc
            cases h
            rw [same true hc]
            simp [atV]
          · rename_i hc
            rw [same false hc]
            simp only []
            rw [ih l' (i + 1) r h hl]
            cases r with
            | none => rfl
            | some x =>
              obtain ⟨h1, _⟩ := mat_at es (i + 1) h
              have : x.1 - i = (x.1 - (i + 1)) + 1 := by have : i + 1 ≤ x.1 := h1; omega
              simp only [Option.map_some, this, atV, List.getElem?_cons_succ]
          · cases h
      have := key es l 0 r h he
      simp only [Nat.sub_zero] at this
      simp [Instr.findKey, run_underlying hu, this]
theorem ents_at : ∀ {es : List MEnt} {l : List MapEntry} {i : Nat} {e : MEnt}, entsIs ρ es l → es[i]? = some e → ∃ u, l[i]? = some ⟨pvVal e.key, u, e.born⟩ ∧ e.val.Is ρ u
  | _ :: _, _, 0, e, ⟨u, r, h1, h2, h3⟩, h => by cases h; subst h1; exact ⟨u, rfl, h2⟩
  | _ :: _, _, i + 1, e, ⟨u, r, h1, h2, h3⟩, h => by
    subst h1
    obtain ⟨u', h4, h5⟩ := ents_at (l := r) (i := i) h3 (by simpa using h)
    exact ⟨u', by simpa using h4, h5⟩
  | [], _, _, _, _, h => by cases h
theorem ents_set : ∀ {es : List MEnt} {l : List MapEntry} {i : Nat} {e : MEnt} {v : PV} {u : Value}, entsIs ρ es l → es[i]? = some e → v.Is ρ u → entsIs ρ (es.set i ⟨e.key, v, e.born⟩) (l.set i ⟨pvVal e.key, u, e.born⟩)
  | _ :: _, _, 0, e, v, u, ⟨u', r, h1, h2, h3⟩, h, hv => by cases h; subst h1; exact ⟨u, r, rfl, hv, h3⟩
  | _ :: _, _, i + 1, e, v, u, ⟨u', r, h1, h2, h3⟩, h, hv => by subst h1; exact ⟨u', _, rfl, h2, ents_set h3 (by simpa using h) hv⟩
  | [], _, _, _, _, _, _, h, _ => by cases h
theorem ents_snoc : ∀ {es : List MEnt} {l : List MapEntry} {k v : PV} {c : Nat} {u : Value}, entsIs ρ es l → v.Is ρ u → entsIs ρ (es ++ [⟨k, v, c⟩]) (l ++ [⟨pvVal k, u, c⟩])
  | [], l, k, v, c, u, h, hv => by obtain rfl : l = [] := h; exact ⟨u, [], rfl, hv, rfl⟩
  | _ :: _, _, k, v, c, u, ⟨u', r, h1, h2, h3⟩, hv => by subst h1; exact ⟨u', _, rfl, h2, ents_snoc h3 hv⟩
theorem ents_erase : ∀ {es : List MEnt} {l : List MapEntry} (i : Nat), entsIs ρ es l → entsIs ρ (es.eraseIdx i) (l.eraseIdx i)
  | [], l, i, h => by obtain rfl : l = [] := h; cases i <;> rfl
  | _ :: _, _, 0, ⟨u', r, h1, h2, h3⟩ => by subst h1; exact h3
  | _ :: _, _, i + 1, ⟨u', r, h1, h2, h3⟩ => by subst h1; exact ⟨u', _, rfl, h2, ents_erase i h3⟩
theorem ents_len : ∀ {es : List MEnt} {l : List MapEntry}, entsIs ρ es l → l.length = es.length
  | [], l, h => by obtain rfl : l = [] := h; rfl
  | _ :: _, _, ⟨u', r, h1, h2, h3⟩ => by subst h1; simp [ents_len h3]
theorem row_mapv {b : Nat} {es : List MEnt} {c : Nat} (hR : Rep ρ M w) (hrow : rowAt M b = .mapv es c) {p : Place} (hp : ρ b = some p) :
    ∃ a : Array MapEntry, w.heap[p.blk]? = some (.map a c) ∧ entsIs ρ es a.toList ∧ ∀ e ∈ es, flatP e.key = true := by
  obtain ⟨q, hq, hr⟩ := hR.rows b (by rw [hrow]; rfl)
  rw [hp] at hq; cases hq
  rw [hrow] at hr
  exact hr
theorem mapv_write {b : Nat} {es es' : List MEnt} {c c' : Nat} {a' : Array MapEntry} {p : Place} (hR : Rep ρ M w) (hrow : rowAt M b = .mapv es c) (hp : ρ b = some p) (he : entsIs ρ es' a'.toList) (hf : ∀ e ∈ es', flatP e.key = true) :
    Rep ρ (setRow M b (.mapv es' c')) (w.putObj p.blk (.map a' c')) ∧ Ev ρ M w ρ (setRow M b (.mapv es' c')) (w.putObj p.blk (.map a' c')) := by
  obtain ⟨a, hb, _⟩ := row_mapv hR hrow hp
  exact set_obj hR (by rw [hrow]; rfl) hp (by rw [hrow]; rfl) (by simp [World.putObj]) (fun k hk => World.putObj_heap_other hk) rfl rfl rfl ⟨_, World.putObj_heap_same (lt_of_heap hb), he, hf⟩ (fun k hk => hk)
theorem mres_v {ok : Bool} {z : PV} {r : Option PV} {u : Value} (hz : flatP z = true) (hr : ∀ v, r = some v → v.Is ρ u) : (mres ok z r).Is ρ (if ok then .tuple #[if r.isSome then u else pvVal z, .bool r.isSome] else if r.isSome then u else pvVal z) := by
  have h1 : z.Is ρ (pvVal z) := (pv_iff hz).2 rfl
  cases ok <;> cases r
  · exact h1
  · exact hr _ rfl
  · exact ⟨_, rfl, _, _, rfl, h1, _, _, rfl, rfl, rfl⟩
  · exact ⟨_, rfl, _, _, rfl, hr _ rfl, _, _, rfl, rfl, rfl⟩
theorem mres_is {ok : Bool} {z : PV} {r : Option PV} (hz : flatP z = true) (hr : ∀ v, r = some v → flatP v = true) : (mres ok z r).Is ρ (if ok then .tuple #[pvVal (r.getD z), .bool r.isSome] else pvVal (r.getD z)) := by
  have h1 : ∀ v, flatP v = true → v.Is ρ (pvVal v) := fun v h => (pv_iff h).2 rfl
  cases ok <;> cases r
  · exact h1 _ hz
  · exact h1 _ (hr _ rfl)
  · exact ⟨_, rfl, _, _, rfl, h1 _ hz, _, _, rfl, rfl, rfl⟩
  · exact ⟨_, rfl, _, _, rfl, h1 _ (hr _ rfl), _, _, rfl, rfl, rfl⟩
theorem mget_good (hk : Known P eqs) {t : TypeId} {x k : Operand} {vx vk : VX} {q ok : Bool} {ks : List CK} {z : PV} (ho : o.op = .lookup t x k ok) (ht : mapT P eqs t = some (q, ks, z)) (hx : cX x = some vx) (hkx : cX k = some vk)
    (hS : SlotsOk ρ n ds sl a) (hR : Rep ρ M w) (h : opW G P false sl M nid (.mget q ks z ok vx vk) K) : Good P o a ρ M w nid nw K := by
  obtain ⟨kt, e, hu, hks, hq, hz, hzf⟩ := mapT_some ht
  have ho' : execOp a.eval o = (do pure (.value (← Instr.lookup t (a.eval x) (a.eval k) ok))) := by unfold execOp; rw [ho]
  simp only [opW] at h
  split at h
  · rename_i he
    split at h
    · rename_i kv hkv
      obtain ⟨hko, hK⟩ := h
      have hA : a.eval x = .map none := env_is hS hx he
      have hB := key_val hko (env_is hS hkx hkv)
      refine good_read hR (run_v ho' ?_) hK (mres_is (r := none) hzf (fun v h => by cases h))
      rw [hA, hB]
      have hfind := run_find (w := w) hk hks hq (keyOk_flat hko) [] none rfl fun e he => by cases he
      simp only [List.map_nil] at hfind
      simp only [Instr.lookup, Sem.run_bind, run_underlying hu, Result.andThen_ok, Sem.run_pure, run_check hks hq hko, hfind, Option.map_none, run_zero hz]
      cases ok <;> rfl
    · exact h.elim
  · rename_i b he
    split at h
    · rename_i es c hrow
      split at h
      · rename_i kv hkv
        obtain ⟨hko, r, hr, hK⟩ := h
        obtain ⟨p, hp, hA⟩ : ∃ p, ρ b = some p ∧ a.eval x = .map (some p.blk) := env_is hS hx he
        have hB := key_val hko (env_is hS hkx hkv)
        obtain ⟨hb, hf⟩ := row_map hR hrow hp
        obtain ⟨r', h1, h2⟩ := mat_find es 0 hr
        have hfind := run_find (w := w) hk hks hq (keyOk_flat hko) es r' h1 fun e he => (hf e he).1
        rw [V.force_eq] at hK
        refine good_read hR (u := if ok then .tuple #[pvVal (r.getD z), .bool r.isSome] else pvVal (r.getD z)) (run_v ho' ?_) hK (mres_is hzf fun v hv => ?_)
        · rw [hA, hB]
          simp only [Instr.lookup, Sem.run_bind, run_underlying hu, Result.andThen_ok, run_getObj' hb rfl, Sem.run_pure, run_check hks hq hko, hfind, List.toList_toArray]
          subst h2
          cases r' with
          | none => simp only [Option.map_none, run_zero hz, Sem.run_bind, Result.andThen_ok, Sem.run_pure]; cases ok <;> rfl
          | some r' => cases ok <;> rfl
        · subst h2
          cases r' with
          | none => cases hv
          | some r' =>
            obtain ⟨j, e⟩ := r'
            cases hv
            have := (mat_at es 0 h1).2.1
            exact (hf e (List.mem_of_getElem? this)).2
      · exact h.elim
    · rename_i es c hrow
      split at h
      · rename_i kv hkv
        obtain ⟨hko, r, hr, hK⟩ := h
        obtain ⟨p, hp, hA⟩ : ∃ p, ρ b = some p ∧ a.eval x = .map (some p.blk) := env_is hS hx he
        have hB := key_val hko (env_is hS hkx hkv)
        obtain ⟨ar, hb, hes, hf⟩ := row_mapv hR hrow hp
        obtain ⟨r', h1, h2⟩ := mat_find es 0 hr
        have hfind := run_find' (w := w) hk hks hq (keyOk_flat hko) es ar.toList r' h1 hes hf
        rw [V.force_eq] at hK
        subst h2
        cases r' with
        | none =>
          refine good_read hR (run_v ho' ?_) hK (mres_v (u := undef) hzf fun v hv => by cases hv)
          rw [hA, hB]
          simp only [Instr.lookup, Sem.run_bind, run_underlying hu, Result.andThen_ok, run_getObj' hb rfl, Sem.run_pure, run_check hks hq hko, hfind, Option.map_none, run_zero hz]
          cases ok <;> rfl
        | some r' =>
          obtain ⟨j, e⟩ := r'
          obtain ⟨_, h3, _⟩ := mat_at es 0 h1
          simp only [Nat.sub_zero] at h3
          obtain ⟨u, h4, h5⟩ := ents_at hes h3
          refine good_read hR (run_v ho' ?_) hK (mres_v (u := u) hzf fun v hv => by cases hv; exact h5)
          rw [hA, hB]
          have hat : atV ar.toList j = u := by simp [atV, h4]
          simp only [Instr.lookup, Sem.run_bind, run_underlying hu, Result.andThen_ok, run_getObj' hb rfl, Sem.run_pure, run_check hks hq hko, hfind, Option.map_some, hat]
          cases ok <;> rfl
      · exact h.elim
    · exact h.elim
  · exact h.elim
theorem flat_put {q : Bool} {ks : List CK} {k v : PV} {es es' : List MEnt} {c c' : Nat} (h : mput q ks k v es c = some (es', c')) (hk : keyOk q ks k = true) (hv : flatP v = true) (hf : ∀ e ∈ es, flatP e.key = true ∧ flatP e.val = true) : ∀ e ∈ es', flatP e.key = true ∧ flatP e.val = true := by
  rcases mat_put es 0 c h with ⟨j, e, _, _, rfl⟩ | ⟨_, _, rfl⟩
  · intro x hx
    rcases List.mem_or_eq_of_mem_set hx with h | rfl
    · exact hf x h
    · exact ⟨keyOk_flat hk, hv⟩
  · intro x hx
    rcases List.mem_append.1 hx with h | h
    · exact hf x h
    · rw [List.mem_singleton.1 h]; exact ⟨keyOk_flat hk, hv⟩
theorem mset_good (hk : Known P eqs) {t : TypeId} {x k v : Operand} {vx vk vv : VX} {q : Bool} {ks : List CK} {z : PV} (ho : o.op = .mapUpdate t x k v) (ht : mapT P eqs t = some (q, ks, z)) (hx : cX x = some vx) (hkx : cX k = some vk) (hvx : cX v = some vv)
    (hS : SlotsOk ρ n ds sl a) (hR : Rep ρ M w) (h : opW G P false sl M nid (.mset q ks vx vk vv) K) : Good P o a ρ M w nid nw K := by
  obtain ⟨kt, e, hu, hks, hq, hz, hzf⟩ := mapT_some ht
  simp only [opW] at h
  split at h
  case h_2 => exact h.elim
  rename_i b he
  have ho' : execOp a.eval o = (do Instr.mapUpdate t (a.eval x) (a.eval k) (a.eval v); pure .skip) := by unfold execOp; rw [ho]
  split at h
  case h_3 => exact h.elim
  case h_2 =>
    rename_i es c hrow
    split at h
    case h_2 => exact h.elim
    rename_i kv hkv
    split at h
    case h_2 => exact h.elim
    rename_i v' hv'
    obtain ⟨hko, es', c', hput, hK⟩ := h
    obtain ⟨p, hp, hA⟩ : ∃ p, ρ b = some p ∧ a.eval x = .map (some p.blk) := env_is hS hx he
    have hB := key_val hko (env_is hS hkx hkv)
    have hV : v'.Is ρ (a.eval v) := env_is hS hvx hv'
    obtain ⟨ar, hb, hes, hf⟩ := row_mapv hR hrow hp
    rcases mat_put es 0 c hput with ⟨j, e', h1, hcc, rfl⟩ | ⟨h1, rfl, rfl⟩
    · obtain rfl : c = c' := hcc.symm
      have hfind := run_find' (w := w) hk hks hq (keyOk_flat hko) es ar.toList _ h1 hes hf
      obtain ⟨_, h2, h3⟩ := mat_at es 0 h1
      simp only [Nat.sub_zero] at h2 hK
      obtain ⟨u, h4, h5⟩ := ents_at hes h2
      have hkey := eqK_same h3
      have hent : entsIs ρ (es.set j ⟨kv, v', e'.born⟩) (ar.toList.set j ⟨pvVal kv, a.eval v, e'.born⟩) := by
        have := ents_set (v := v') (u := a.eval v) hes h2 hV
        have g : ∀ (es : List MEnt) (l : List MapEntry) (j : Nat), entsIs ρ (es.set j ⟨e'.key, v', e'.born⟩) l → entsIs ρ (es.set j ⟨kv, v', e'.born⟩) l := by
          intro es
          induction es with
          | nil => intro l j h; exact h
          | cons x es ih =>
            intro l j h
            cases j with
            | zero => obtain ⟨u, r, g1, g2, g3⟩ := h; exact ⟨u, r, by rw [g1, hkey], g2, g3⟩
            | succ j => obtain ⟨u, r, g1, g2, g3⟩ := h; exact ⟨u, r, g1, g2, ih _ _ g3⟩
        rw [hkey]; exact g _ _ _ this
      have hm : (ar.modify j fun e => { e with key := pvVal kv, val := a.eval v }).toList = ar.toList.set j ⟨pvVal kv, a.eval v, e'.born⟩ := by
        rw [Array.toList_modify]
        apply List.ext_getElem?
        intro i
        rw [List.getElem?_modify, List.getElem?_set]
        by_cases e : j = i
        · subst e
          have hj : j < ar.toList.length := (List.getElem?_eq_some_iff.1 h4).1
          have hj' : j < ar.size := by simpa using hj
          have h4' : ar[j]? = some ⟨pvVal e'.key, u, e'.born⟩ := by simpa using h4
          have h6 := (Array.getElem?_eq_some_iff.1 h4').2
          simp [h4', hj', h6]
        · simp [e]
      obtain ⟨g1, g2⟩ := mapv_write (c' := c) (a' := ar.modify j fun e => { e with key := pvVal kv, val := a.eval v }) hR hrow hp (by rw [hm]; exact hent) (fun e he => by
        rcases List.mem_or_eq_of_mem_set he with h | rfl
        · exact hf e h
        · exact keyOk_flat hko)
      refine good_skip (e := ⟨none, [(b, .mapv (es.set j ⟨kv, v', e'.born⟩) c)], [], [b]⟩) ?_ hK g1 g2 rfl (fun _ _ => rfl)
      rw [ho', hA, hB]
      have hold : ((ar[j]?).map (·.key)).getD (pvVal kv) = pvVal kv := by
        have : ar[j]? = some ⟨pvVal e'.key, u, e'.born⟩ := by simpa using h4
        simp [this, hkey]
      have hst : (Instr.keyThatStays (pvVal kv) (pvVal kv)).run P w = .ok (pvVal kv) w := by simp [Instr.keyThatStays, sameBits_key hko 9999]
      simp only [Instr.mapUpdate, Sem.run_bind, run_underlying hu, Result.andThen_ok, run_getObj' hb rfl, run_check hks hq hko, hfind, Option.map_some, hold, hst, run_setObj' hb rfl, Sem.run_pure]
    · have hfind := run_find' (w := w) hk hks hq (keyOk_flat hko) es ar.toList _ h1 hes hf
      obtain ⟨g1, g2⟩ := mapv_write (c' := c + 1) (a' := ar.push ⟨pvVal kv, a.eval v, c⟩) hR hrow hp (by rw [Array.toList_push]; exact ents_snoc hes hV) (fun e he => by
        rcases List.mem_append.1 he with h | h
        · exact hf e h
        · rw [List.mem_singleton.1 h]; exact keyOk_flat hko)
      refine good_skip (e := ⟨none, [(b, .mapv (es ++ [⟨kv, v', c⟩]) (c + 1))], [], [b]⟩) ?_ hK g1 g2 rfl (fun _ _ => rfl)
      rw [ho', hA, hB]
      simp only [Instr.mapUpdate, Sem.run_bind, run_underlying hu, Result.andThen_ok, run_getObj' hb rfl, run_check hks hq hko, hfind, Option.map_none, run_setObj' hb rfl, Sem.run_pure]
  rename_i es c hrow
  split at h
  case h_2 => exact h.elim
  rename_i kv hkv
  split at h
  case h_2 => exact h.elim
  rename_i v' hv'
  obtain ⟨hko, es', c', hput, hK⟩ := h
  simp only [Bool.and_eq_true] at hko
  obtain ⟨p, hp, hA⟩ : ∃ p, ρ b = some p ∧ a.eval x = .map (some p.blk) := env_is hS hx he
  have hB := key_val hko.1 (env_is hS hkx hkv)
  have hV : a.eval v = pvVal v' := (pv_iff hko.2).1 (env_is hS hvx hv')
  obtain ⟨hb, hf⟩ := row_map hR hrow hp
  obtain ⟨g1, g2⟩ := map_write (c' := c') hR hrow hp (flat_put hput hko.1 hko.2 hf)
  refine good_skip (e := ⟨none, [(b, .map es' c')], [], [b]⟩) ?_ hK g1 g2 rfl (fun _ _ => rfl)
  have ho' : execOp a.eval o = (do Instr.mapUpdate t (a.eval x) (a.eval k) (a.eval v); pure .skip) := by unfold execOp; rw [ho]
  rw [ho', hA, hB, hV]
  rcases mat_put es 0 c hput with ⟨j, e', h1, rfl, rfl⟩ | ⟨h1, rfl, rfl⟩
  · have hfind := run_find (w := w) hk hks hq (keyOk_flat hko.1) es _ h1 fun e he => (hf e he).1
    obtain ⟨_, h2, h3⟩ := mat_at es 0 h1
    simp only [Nat.sub_zero] at h2 ⊢
    have hold : (((es.map MEnt.obj).toArray[j]?).map (·.key)).getD (pvVal kv) = pvVal kv := by
      simp [h2, MEnt.obj, eqK_same h3]
    have hst : (Instr.keyThatStays (pvVal kv) (pvVal kv)).run P w = .ok (pvVal kv) w := by simp [Instr.keyThatStays, sameBits_key hko.1 9999]
    have hm : ((es.map MEnt.obj).toArray.modify j fun e => { e with key := pvVal kv, val := pvVal v' }) = ((es.set j ⟨kv, v', e'.born⟩).map MEnt.obj).toArray := by
      apply Array.toList_inj.1
      have hj : j < es.length := (List.getElem?_eq_some_iff.1 h2).1
      rw [Array.toList_modify]
      simp only [List.toList_toArray, List.map_set]
      apply List.ext_getElem?
      intro i
      rw [List.getElem?_modify, List.getElem?_set]
      by_cases e : j = i
      · subst e
        have hje : es[j] = e' := (List.getElem?_eq_some_iff.1 h2).2
        simp [h2, hj, MEnt.obj, hje]
      · simp [e]
    simp only [Instr.mapUpdate, Sem.run_bind, run_underlying hu, Result.andThen_ok, run_getObj' hb rfl, run_check hks hq hko.1, hfind, List.toList_toArray, Option.map_some, hold, hst, run_setObj' hb rfl, hm, Sem.run_pure]
  · have hfind := run_find (w := w) hk hks hq (keyOk_flat hko.1) es _ h1 fun e he => (hf e he).1
    have hm : (es.map MEnt.obj).toArray.push { key := pvVal kv, val := pvVal v', born := c } = ((es ++ [(⟨kv, v', c⟩ : MEnt)]).map MEnt.obj).toArray := by
      apply Array.toList_inj.1; simp [MEnt.obj]
    simp only [Instr.mapUpdate, Sem.run_bind, run_underlying hu, Result.andThen_ok, run_getObj' hb rfl, run_check hks hq hko.1, hfind, List.toList_toArray, Option.map_none, run_setObj' hb rfl, hm, Sem.run_pure]
theorem map_erase {α β : Type} (f : α → β) : ∀ (l : List α) (j : Nat), (l.map f).eraseIdx j = (l.eraseIdx j).map f
  | [], _ => rfl
  | _ :: _, 0 => rfl
  | x :: l, j + 1 => by simp [map_erase f l j]
theorem mdel_good (hk : Known P eqs) {c : Call} {t tt : TypeId} {x k : Operand} {vx vk : VX} {q : Bool} {ks : List CK} {z : PV} (ho : o.op = .call c) (hc : c.callee = .builtin .delete) (ha : c.args.toList = [x, k]) (hty : c.argTypes.toList = [t, tt]) (ht : mapT P eqs t = some (q, ks, z)) (hx : cX x = some vx) (hkx : cX k = some vk)
    (hS : SlotsOk ρ n ds sl a) (hR : Rep ρ M w) (h : opW G P false sl M nid (.mdel q ks vx vk) K) : Good P o a ρ M w nid nw K := by
  obtain ⟨kt, e, hu, hks, hq, hz, hzf⟩ := mapT_some ht
  simp only [opW] at h
  split at h
  case h_2 => exact h.elim
  rename_i b he
  split at h
  case h_3 => exact h.elim
  case h_2 =>
    rename_i es cl hrow
    split at h
    case h_2 => exact h.elim
    rename_i kv hkv
    obtain ⟨hko, es', hdel, hK⟩ := h
    obtain ⟨p, hp, hA⟩ : ∃ p, ρ b = some p ∧ a.eval x = .map (some p.blk) := env_is hS hx he
    have hB := key_val hko (env_is hS hkx hkv)
    obtain ⟨ar, hb, hes, hf⟩ := row_mapv hR hrow hp
    have hty' : c.argTypes = #[t, tt] := by cases hq' : c.argTypes; simp_all
    rcases mat_drop es 0 hdel with ⟨j, e', h1, rfl⟩ | ⟨h1, rfl⟩
    · have hfind := run_find' (w := w) hk hks hq (keyOk_flat hko) es ar.toList _ h1 hes hf
      obtain ⟨_, h2, h3⟩ := mat_at es 0 h1
      simp only [Nat.sub_zero] at h2 hK
      have hj : j < ar.size := by
        have h5 := (List.getElem?_eq_some_iff.1 h2).1
        have h6 := ents_len hes
        simp only [Array.length_toList] at h6
        omega
      have hm : (ar.eraseIdxIfInBounds j).toList = ar.toList.eraseIdx j := by
        rw [Array.eraseIdxIfInBounds, dif_pos hj, Array.toList_eraseIdx]
      obtain ⟨g1, g2⟩ := mapv_write (c' := cl) (a' := ar.eraseIdxIfInBounds j) hR hrow hp (by rw [hm]; exact ents_erase j hes) (fun e he => hf e (List.mem_of_mem_eraseIdx he))
      refine good_run (e := ⟨some (.t []), [(b, .mapv (es.eraseIdx j) cl)], [], [b]⟩) (u := .tuple #[]) (run_bw (f := Builtin.delete_ #[t, tt] o.type #[a.eval x, a.eval k]) ho hc (fun cs => by rw [arr2 ha, hty']; rfl) ?_) hK g1 g2 ⟨#[], rfl, rfl⟩ (fun _ _ => rfl)
      rw [hA, hB]
      simp [Builtin.delete_, run_underlying hu, run_getObj' hb rfl, run_check hks hq hko, hfind, run_setObj' hb rfl]
    · have hfind := run_find' (w := w) hk hks hq (keyOk_flat hko) _ ar.toList _ h1 hes hf
      obtain ⟨g1, g2⟩ := mapv_write (c' := cl) (a' := ar) hR hrow hp hes hf
      refine good_run (e := ⟨some (.t []), [(b, .mapv _ cl)], [], [b]⟩) (u := .tuple #[]) (run_bw (f := Builtin.delete_ #[t, tt] o.type #[a.eval x, a.eval k]) ho hc (fun cs => by rw [arr2 ha, hty']; rfl) ?_) hK g1 g2 ⟨#[], rfl, rfl⟩ (fun _ _ => rfl)
      rw [hA, hB]
      simp [Builtin.delete_, run_underlying hu, run_getObj' hb rfl, run_check hks hq hko, hfind, run_setObj' hb rfl]
  rename_i es cl hrow
  split at h
  case h_2 => exact h.elim
  rename_i kv hkv
  obtain ⟨hko, es', hdel, hK⟩ := h
  obtain ⟨p, hp, hA⟩ : ∃ p, ρ b = some p ∧ a.eval x = .map (some p.blk) := env_is hS hx he
  have hB := key_val hko (env_is hS hkx hkv)
  obtain ⟨hb, hf⟩ := row_map hR hrow hp
  have hf' : ∀ e ∈ es', flatP e.key = true ∧ flatP e.val = true := by
    rcases mat_drop es 0 hdel with ⟨j, e', _, rfl⟩ | ⟨_, rfl⟩
    · exact fun x hx => hf x (List.mem_of_mem_eraseIdx hx)
    · exact hf
  obtain ⟨g1, g2⟩ := map_write (c' := cl) hR hrow hp hf'
  have hty' : c.argTypes = #[t, tt] := by cases hq' : c.argTypes; simp_all
  refine good_run (e := ⟨some (.t []), [(b, .map es' cl)], [], [b]⟩) (u := .tuple #[]) (run_bw (f := Builtin.delete_ #[t, tt] o.type #[a.eval x, a.eval k]) ho hc (fun cs => by rw [arr2 ha, hty']; rfl) ?_) hK g1 g2 ⟨#[], rfl, rfl⟩ (fun _ _ => rfl)
  rw [hA, hB]
  rcases mat_drop es 0 hdel with ⟨j, e', h1, rfl⟩ | ⟨h1, rfl⟩
  · have hfind := run_find (w := w) hk hks hq (keyOk_flat hko) es _ h1 fun e he => (hf e he).1
    obtain ⟨_, h2, h3⟩ := mat_at es 0 h1
    simp only [Nat.sub_zero] at h2 ⊢
    have hm : (es.map MEnt.obj).toArray.eraseIdxIfInBounds j = ((es.eraseIdx j).map MEnt.obj).toArray := by
      have hj : j < (es.map MEnt.obj).toArray.size := by simpa using (List.getElem?_eq_some_iff.1 h2).1
      rw [Array.eraseIdxIfInBounds, dif_pos hj]
      apply Array.toList_inj.1
      rw [Array.toList_eraseIdx]
      exact map_erase _ _ _
    simp [Builtin.delete_, run_underlying hu, run_getObj' hb rfl, run_check hks hq hko, hfind, run_setObj' hb rfl, hm, map_erase]
  · have hfind := run_find (w := w) hk hks hq (keyOk_flat hko) _ _ h1 fun e he => (hf e he).1
    simp [Builtin.delete_, run_underlying hu, run_getObj' hb rfl, run_check hks hq hko, hfind, run_setObj' hb rfl]
theorem mlen_good {c : Call} {x : Operand} {t k e : TypeId} {vx : VX} (ho : o.op = .call c) (hc : c.callee = .builtin .len) (ha : c.args.toList = [x]) (ht : c.argTypes.toList = [t]) (hu : P.underlying t = some (.map k e)) (hx : cX x = some vx)
    (hS : SlotsOk ρ n ds sl a) (hR : Rep ρ M w) (h : opW G P false sl M nid (.mlen vx) K) : Good P o a ρ M w nid nw K := by
  have run {u : Value} (hf : (Builtin.len_ #[t] o.type #[a.eval x]).run P w = .ok u w) : (execOp a.eval o).run P w = .ok (.value u) w :=
    run_builtin (f := Builtin.len_ #[t] o.type #[a.eval x]) ho hc (fun cs => by rw [arr1 ha, arr1' ht]; rfl) hf
  simp only [opW] at h
  split at h
  · rename_i he
    have hA : a.eval x = .map none := env_is hS hx he
    exact good_read hR (run (by rw [hA]; simp [Builtin.len_, run_underlying hu]; rfl)) h rfl
  · rename_i b he
    split at h
    · rename_i es cl hrow
      obtain ⟨p, hp, hA⟩ : ∃ p, ρ b = some p ∧ a.eval x = .map (some p.blk) := env_is hS hx he
      obtain ⟨hb, hf⟩ := row_map hR hrow hp
      refine good_read hR (run (u := .int .i64 es.length) ?_) h rfl
      rw [hA]
      simp [Builtin.len_, run_underlying hu, run_getObj' hb rfl, goInt]
    · rename_i es cl hrow
      obtain ⟨p, hp, hA⟩ : ∃ p, ρ b = some p ∧ a.eval x = .map (some p.blk) := env_is hS hx he
      obtain ⟨ar, hb, hes, hf⟩ := row_mapv hR hrow hp
      refine good_read hR (run (u := .int .i64 es.length) ?_) h rfl
      rw [hA]
      have hl := ents_len hes
      simp only [Array.length_toList] at hl
      simp [Builtin.len_, run_underlying hu, run_getObj' hb rfl, goInt, hl]
    · exact h.elim
  · exact h.elim
theorem rng_good {t k e : TypeId} {x : Operand} {vx : VX} (ho : o.op = .range t x) (hu : P.underlying t = some (.map k e)) (hx : cX x = some vx) (hS : SlotsOk ρ n ds sl a) (hR : Rep ρ M w) (hn : ρ nid = none) (hM : nid < lenR M) (hd : rowAt M nid = .dead)
    (h : opW G P false sl M nid (.rng vx) K) : Good P o a ρ M w nid 1 K := by
  have ho' : execOp a.eval o = (do pure (.value (← Instr.range t (a.eval x)))) := by unfold execOp; rw [ho]
  simp only [opW] at h
  split at h
  · rename_i he
    have hA : a.eval x = .map none := env_is hS hx he
    obtain ⟨g1, g2⟩ := new_obj (fin := 0) (r := .iter0) (w' := w.alloc (.mapIter none 0 #[] 0)) hR hn hM hd rfl rfl rfl rfl ⟨rfl, by show (w.heap.push _)[_]? = _; simp⟩ (fun k hk => hk)
    refine good_run (e := ⟨some (vO (.ptr nid 0)), [], [.iter0], []⟩) (u := .pointer (some ⟨w.heap.size, 0, none⟩)) (run_v ho' (by rw [hA]; exact run_range_nilMap w t k e hu)) h g1 g2 ⟨_, upd_same _ _ _, rfl⟩ (fresh_of nid _)
  · rename_i b he
    split at h
    · rename_i es c hrow
      obtain ⟨p, hp, hA⟩ : ∃ p, ρ b = some p ∧ a.eval x = .map (some p.blk) := env_is hS hx he
      obtain ⟨hb, hf⟩ := row_map hR hrow hp
      have hx' := upd_ext (p := ⟨w.heap.size, 0, 0⟩) hn
      obtain ⟨g1, g2⟩ := new_obj (fin := 0) (r := .iter b c [] c) (w' := w.alloc (.mapIter (some p.blk) c #[] c)) hR hn hM hd rfl rfl rfl rfl ⟨rfl, p, hx' _ _ hp, by show (w.heap.push _)[_]? = _; simp⟩ (fun k hk => hk)
      exact good_run (e := ⟨some (vO (.ptr nid 0)), [], [.iter b c [] c], [b]⟩) (u := .pointer (some ⟨w.heap.size, 0, none⟩)) (run_v ho' (by rw [hA]; exact run_range_map w t k e _ _ _ hu hb)) h g1 g2 ⟨_, upd_same _ _ _, rfl⟩ (fresh_of nid _)
    · exact h.elim
  · exact h.elim
theorem iter_row {i m since st : Nat} {seen : List Nat} (hR : Rep ρ M w) (hrow : rowAt M i = .iter m since seen st) {p : Place} (hp : ρ i = some p) :
    p.base = 0 ∧ ∃ q, ρ m = some q ∧ w.heap[p.blk]? = some (.mapIter (some q.blk) since seen.toArray st) := by
  obtain ⟨q, hq, hr⟩ := hR.rows i (by rw [hrow]; rfl)
  rw [hp] at hq; cases hq
  rw [hrow] at hr
  exact hr
theorem run_next0 {ty : TypeId} {r : Nat} (hr : w.heap[r]? = some (.mapIter none 0 #[] 0)) : (Instr.next (.pointer (some ⟨r, 0, none⟩)) false ty).run P w = .ok (.tuple #[.bool false]) w := by
  simp [Instr.next, run_getObj' hr rfl]
theorem run_choose (k : Nat) (w : World) (hk : 0 < k) : ∃ j w1, j < k ∧ (w1 = w ∨ w1 = w.drew) ∧ (choose (Question.mapNext k)).run P w = .ok j w1 := by
  by_cases hf : k ≤ 1
  · exact ⟨0, w, by omega, Or.inl rfl, by simp [choose, Sem.run, Question.forced, hf]⟩
  · exact ⟨_, w.drew, Nat.mod_lt _ (by omega), Or.inr rfl, by
      simp only [choose, Sem.run, Question.forced, decide_eq_true_eq, hf, if_false, Question.cut]
      rfl⟩
theorem run_next_any {ty : TypeId} {r m since st clock : Nat} {seen : List Nat} {es : List MEnt} (hr : w.heap[r]? = some (.mapIter (some m) since seen.toArray st)) (hm : w.heap[m]? = some (.map (es.map MEnt.obj).toArray clock))
    (hok : seen = [] ∨ es = [] ∨ ∃ e ∈ es, e.born < st) :
    ((∀ e ∈ es, e.born < since → e.born ∈ seen) ∧ ∃ w1, (w1 = w ∨ w1 = w.drew) ∧ (Instr.next (.pointer (some ⟨r, 0, none⟩)) false ty).run P w = .ok (.tuple #[.bool false]) w1) ∨
    ∃ e ∈ es, e.born ∉ seen ∧ ∃ w1, (w1 = w ∨ w1 = w.drew) ∧ (Instr.next (.pointer (some ⟨r, 0, none⟩)) false ty).run P w = .ok (.tuple #[.bool true, pvVal e.key, pvVal e.val]) (w1.putObj r (.mapIter (some m) since (seen ++ [e.born]).toArray clock)) := by
  have htest : (!seen.toArray.isEmpty && !(es.map MEnt.obj).toArray.isEmpty && (es.map MEnt.obj).toArray.all (fun x => decide (x.born ≥ st))) = false := by
    rcases hok with rfl | rfl | ⟨e, he, hb⟩
    · simp
    · simp
    · have : (es.map MEnt.obj).toArray.all (fun x => decide (x.born ≥ st)) = false := by
        rw [Bool.eq_false_iff]
        intro hall
        rw [Array.all_eq_true'] at hall
        have := hall (MEnt.obj e) (by simp; exact ⟨e, he, rfl⟩)
        simp [MEnt.obj] at this
        omega
      rw [this]; simp
  generalize hL : (es.map MEnt.obj).toArray.filter (fun e => !seen.toArray.contains e.born) = L
  have hmem : ∀ x ∈ L.toList, ∃ e ∈ es, e.born ∉ seen ∧ x = MEnt.obj e := by
    intro x hx
    rw [← hL] at hx
    simp at hx
    obtain ⟨⟨e, he, rfl⟩, h2⟩ := hx
    exact ⟨e, he, h2, rfl⟩
  have hmem' : ∀ e ∈ es, e.born ∉ seen → MEnt.obj e ∈ L.toList := by
    intro e he hs
    rw [← hL]
    simp
    exact ⟨⟨e, he, rfl⟩, hs⟩
  generalize ho1 : L.filter (fun x => decide (x.born < since)) = old
  generalize ho2 : L.filter (fun x => decide (x.born ≥ since)) = new
  have hcand : ∀ x ∈ (old ++ new).toList, x ∈ L.toList := by
    intro x hx
    rw [← ho1, ← ho2] at hx
    simp at hx ⊢
    rcases hx with h | h <;> exact h.1
  have hpos : 0 < ((if old.isEmpty then #[none] else #[]) ++ (old ++ new).map some).size := by
    by_cases h0 : old.isEmpty
    · simp [h0]; omega
    · have : 0 < old.size := by
        rw [Array.isEmpty] at h0; simp at h0; exact Nat.pos_of_ne_zero (by simpa using h0)
      simp; omega
  obtain ⟨j, w1, hj, hw1, hrun⟩ := run_choose (P := P) _ w hpos
  have hsz : ((if old.isEmpty then #[none] else #[]) ++ (old ++ new).map some)[j]? = some (((if old.isEmpty then #[none] else #[]) ++ (old ++ new).map some)[j]) := Array.getElem?_eq_getElem hj
  have hel := Array.getElem_mem hj
  generalize ((if old.isEmpty then #[none] else #[]) ++ (old ++ new).map some)[j] = el at hsz hel
  have hr1 : w1.heap[r]? = some (.mapIter (some m) since seen.toArray st) := by rcases hw1 with rfl | rfl <;> exact hr
  cases el with
  | none =>
    left
    have hold : old = #[] := by
      by_cases h0 : old.isEmpty
      · simpa [Array.isEmpty] using h0
      · simp [h0] at hel
    refine ⟨fun e he hb => ?_, w1, hw1, ?_⟩
    · refine Classical.byContradiction fun hs => ?_
      have := hmem' e he hs
      have h2 : MEnt.obj e ∈ old := by
        rw [← ho1]; simp; exact ⟨by simpa using this, hb⟩
      rw [hold] at h2; simp at h2
    · simp only [Instr.next, Sem.run_bind, run_getObj' hr rfl, run_getObj' hm rfl, Result.andThen_ok, htest, Bool.false_eq_true, if_false, hL, ho1, ho2, hrun, hsz, Sem.run_pure]
  | some x =>
    right
    have hx : x ∈ (old ++ new).toList := by
      simp at hel ⊢
      exact hel
    obtain ⟨e, he, hs, rfl⟩ := hmem x (hcand x hx)
    refine ⟨e, he, hs, w1, hw1, ?_⟩
    have hpush : seen.toArray.push (MEnt.obj e).born = (seen ++ [e.born]).toArray := by apply Array.toList_inj.1; simp [MEnt.obj]
    simp only [Instr.next, Sem.run_bind, run_getObj' hr rfl, run_getObj' hm rfl, Result.andThen_ok, htest, Bool.false_eq_true, if_false, hL, ho1, ho2, hrun, hsz, run_setObj' hr1 rfl, hpush, Sem.run_pure]
    rfl
theorem is_flat {x : PV} (h : flatP x = true) : x.Is ρ (pvVal x) := (pv_iff h).2 rfl
theorem nxt_good {x : Operand} {vx : VX} (ho : o.op = .next x false) (hx : cX x = some vx) (hS : SlotsOk ρ n ds sl a) (hR : Rep ρ M w) (h : opW G P false sl M nid (.nxt vx) K) : Good P o a ρ M w nid nw K := by
  have ho' : execOp a.eval o = (do pure (.value (← Instr.next (a.eval x) false o.type))) := by unfold execOp; rw [ho]
  simp only [opW] at h
  split at h
  case h_2 => exact h.elim
  rename_i i off hd0 he
  obtain ⟨p, hp, hA⟩ : ∃ p, ρ i = some p ∧ a.eval x = .pointer (some ⟨p.blk, p.base + off, none⟩) := env_is hS hx he
  split at h
  · rename_i hrow
    obtain ⟨q, hq, hr⟩ := hR.rows i (by rw [hrow]; rfl)
    rw [hp] at hq; cases hq
    rw [hrow] at hr
    obtain ⟨hb, hr⟩ := hr
    refine good_read hR (run_v ho' (by rw [hA, hb]; exact run_next0 hr)) h ⟨_, rfl, _, _, rfl, rfl, rfl⟩
  · rename_i b since seen st hrow
    split at h
    case h_2 => exact h.elim
    rename_i es c hrowm
    obtain ⟨hb, q, hq, hr⟩ := iter_row hR hrow hp
    obtain ⟨hm, hf⟩ := row_map hR hrowm hq
    have hA : a.eval x = .pointer (some ⟨p.blk, 0, none⟩) := by rw [hA, hb]
    rcases run_next_any (P := P) (ty := o.type) hr hm h.ok with ⟨h1, w1, hw1, hrun⟩ | ⟨e, he', hs, w1, hw1, hrun⟩
    · have hR1 : Rep ρ M w1 := hw1.elim (fun h => h ▸ hR) (fun h => h ▸ hR.drew)
      have hE1 : Ev ρ M w ρ M w1 := hw1.elim (fun h => h ▸ Ev.refl _ _ _) (fun h => h ▸ (Ev.refl _ _ _).drew hR)
      exact good_run (e := ⟨some (.t [.o (.bool false)]), [], [], [i, b]⟩) (run_v ho' (by rw [hA]; exact hrun)) (h.none_ h1) hR1 hE1 ⟨_, rfl, _, _, rfl, rfl, rfl⟩ (fun _ _ => rfl)
    · have hR1 : Rep ρ M w1 := hw1.elim (fun h => h ▸ hR) (fun h => h ▸ hR.drew)
      have hE1 : Ev ρ M w ρ M w1 := hw1.elim (fun h => h ▸ Ev.refl _ _ _) (fun h => h ▸ (Ev.refl _ _ _).drew hR)
      have hr1 : w1.heap[p.blk]? = some (.mapIter (some q.blk) since seen.toArray st) := by rcases hw1 with rfl | rfl <;> exact hr
      obtain ⟨g1, g2⟩ := set_obj (w' := w1.putObj p.blk (.mapIter (some q.blk) since (seen ++ [e.born]).toArray c)) (r := .iter b since (seen ++ [e.born]) c) hR1 (by rw [hrow]; rfl) hp (by rw [hrow]; rfl) (by simp [World.putObj]) (fun k hk => World.putObj_heap_other hk) rfl rfl rfl
        ⟨hb, q, hq, World.putObj_heap_same (lt_of_heap hr1)⟩ (fun k hk => hk)
      exact good_run (e := ⟨some (.t [.o (.bool true), e.key, e.val]), [(i, .iter b since (seen ++ [e.born]) c)], [], [i, b]⟩) (run_v ho' (by rw [hA]; exact hrun)) (h.some_ e he' hs) g1 (hE1.trans g2) ⟨_, rfl, _, _, rfl, rfl, _, _, rfl, is_flat (hf e he').1, _, _, rfl, is_flat (hf e he').2, rfl⟩ (fun _ _ => rfl)
  · exact h.elim
theorem ent_good {x : Operand} {vx : VX} (ho : o.op = .entry x) (hx : cX x = some vx) (hS : SlotsOk ρ n ds sl a) (hR : Rep ρ M w) (h : opW G P false sl M nid (.ent vx) K) : Good P o a ρ M w nid nw K := by
  have ho' : execOp a.eval o = (do pure (.value (← Instr.entry (a.eval x)))) := by unfold execOp; rw [ho]
  simp only [opW] at h
  split at h
  case h_2 => exact h.elim
  rename_i i he
  obtain ⟨p, hp, hA⟩ : ∃ p, ρ i = some p ∧ a.eval x = .pointer (some ⟨p.blk, p.base + 0, none⟩) := env_is hS hx he
  split at h
  case h_2 => exact h.elim
  rename_i b since seen st hrow
  split at h
  case h_2 => exact h.elim
  rename_i es c hrowm
  obtain ⟨hc, k, e, hl, hfe, hK⟩ := h
  obtain ⟨hb, q, hq, hr⟩ := iter_row hR hrow hp
  obtain ⟨hm, hf⟩ := row_map hR hrowm hq
  have hmem := List.mem_of_find?_eq_some hfe
  have hfind : (es.map MEnt.obj).find? (fun x => x.born == k) = some (MEnt.obj e) := by
    rw [List.find?_map]
    have : ((fun x : MapEntry => x.born == k) ∘ MEnt.obj) = fun e => e.born == k := rfl
    rw [this, hfe]; rfl
  refine good_read hR (run_v ho' ?_) hK ⟨#[pvVal e.key, pvVal e.val], rfl, _, _, rfl, is_flat (hf e hmem).1, _, _, rfl, is_flat (hf e hmem).2, rfl⟩
  rw [hA, hb]
  subst hc
  simp [Instr.entry, run_getObj' hr rfl, run_getObj' hm rfl, hl, hfind, MEnt.obj]
theorem cpy_good {c : Call} {x y : Operand} {t u e : TypeId} {vx vy : VX} {i : TypeInfo} (ho : o.op = .call c) (hc : c.callee = .builtin .copy) (ha : c.args.toList = [x, y]) (hty : c.argTypes.toList = [t, u]) (hu : P.underlying t = some (.slice e)) (hi : P.info? e = some i)
    (hx : cX x = some vx) (hy : cX y = some vy) (hS : SlotsOk ρ n ds sl a) (hR : Rep ρ M w) (h : opW G P false sl M nid (.cpy i.size vx vy) K) : Good P o a ρ M w nid nw K := by
  have hty' : c.argTypes = #[t, u] := by cases hq' : c.argTypes; simp_all
  simp only [opW] at h
  split at h
  case h_2 => exact h.elim
  rename_i b off k cc he
  split at h
  case h_2 => exact h.elim
  rename_i sym l hrow
  split at h
  case h_2 => exact h.elim
  rename_i b2 o2 n2 cc2 he2
  split at h
  case h_2 => exact h.elim
  rename_i rw2 sym2 l2 hrow2
  obtain ⟨p, ad, cap, hp, hv, had, hlc, hcap⟩ := env_is hS hx he
  obtain ⟨p2, ad2, cap2, hp2, hv2, had2, hlc2, _⟩ := env_is hS hy he2
  have key : ∀ (m : Nat), Nat.min n2 k = m → ∀ cs, getN l2 o2 (m * i.size) = some cs → (off + m * i.size ≤ lenS l ∧ (sym = true → allFlat cs = true)) → K ⟨some (vI .i64 m), [(b, .row true sym (setN l off cs))], [], [b, b2]⟩ → Good P o a ρ M w nid nw K := by
    intro m hmin cs hcs hbd hK
    have hm1 : m ≤ n2 := by rw [← hmin]; exact Nat.min_le_left _ _
    have hm2 : m ≤ k := by rw [← hmin]; exact Nat.min_le_right _ _
    obtain ⟨vs, hL, hlen, hcell⟩ := cells_vals hR hp2 hrow2 hcs
    obtain ⟨q, hq, hr⟩ := hR.rows b (by rw [hrow]; rfl)
    rw [hp] at hq; cases hq
    rw [hrow] at hr
    obtain ⟨hb, hcells, hflat, hrw⟩ := hr
    obtain ⟨hbl, c', T, lo, hi2, hheap, hcs', hz'⟩ := hrw rfl
    have hlenc := (getN_spec hcs).1
    obtain ⟨g1, g2⟩ := write_row (sym' := sym) (l2 := setN l off cs) (o := off) hR hrow hp hL (by omega) (by rw [lenS_setN]; exact hbl)
      (fun j s hj h4 h5 => by rw [nth_setN _ _ _ _ (by omega), if_pos ⟨h4, h5⟩] at hj; exact hj)
      (fun j s hj h4 => by rw [nth_setN _ _ _ _ (by omega), if_neg (by omega)] at hj; exact hj)
      (fun hs j s hj => by
        rw [nth_setN _ _ _ _ (by omega)] at hj
        split at hj
        · exact allFlat_iff (hbd.2 hs) _ _ hj
        · exact hflat hs _ _ hj)
    have ht : w.there p.blk (p.base + off) vs.length := there_of hheap hcs' hz' (by omega)
    have hld : (Builtin.firstCells i.size m (.slice (some ad2) n2 cap2)).run P w = .ok vs.toArray w :=
      run_firstCells_some w i.size m ad2 n2 cap2 vs hlen (fun j u hj => by
        rcases had2 with h0 | h0
        · have : j < vs.length := (List.getElem?_eq_some_iff.1 hj).1
          have : m = 0 := by omega
          subst this
          rw [Nat.zero_mul] at hlen; omega
        · rw [h0, Addr.add_mid]; exact hcell j u hj)
    have hst : (storeCells ad vs).run P w = .ok () (w.setCells p.blk (p.base + off) vs) := by
      rcases had with h0 | h0
      · have : m = 0 := by omega
        subst this
        have : vs = [] := List.eq_nil_of_length_eq_zero (by rw [hlen, Nat.zero_mul])
        subst this
        rfl
      · rw [h0]
        have := run_storeCells_cells (P := P) p.blk (p.base + off) vs 0 w (fun j hj => by simpa using (ht j hj).1) (fun j hj => by simpa using (ht j hj).2) (oneCells_of_isL hL)
        simpa using this
    refine good_run (e := ⟨some (vI .i64 m), [(b, .row true sym (setN l off cs))], [], [b, b2]⟩) (u := .int .i64 m) (run_bw (f := Builtin.copy_ #[t, u] o.type #[a.eval x, a.eval y]) ho hc (fun cs => by rw [arr2 ha, hty']; rfl) ?_) hK g1 g2 rfl (fun _ _ => rfl)
    rw [hv, hv2]
    have hsz : (sizeOf e).run P w = .ok i.size w := by simp [sizeOf, typeInfo, hi]
    simp only [Builtin.copy_, List.getElem?_toArray, List.getElem?_cons_zero, List.getElem?_cons_succ, Sem.run_bind, run_underlying hu, Result.andThen_ok, Builtin.lenOf, Sem.run_pure, hsz, hmin, hld, hst, goInt]
  by_cases hle : n2 ≤ k
  · obtain ⟨cs, hcs, hbd, hK⟩ := h.yes (by simpa using hle)
    exact key n2 (Nat.min_eq_left hle) cs hcs hbd hK
  · obtain ⟨cs, hcs, hbd, hK⟩ := h.no (by simpa using hle)
    exact key k (Nat.min_eq_right (by omega)) cs hcs hbd hK
theorem run_bounds3 {len cap : Nat} {lo hi mx : Option Value} {l h m : Int} {k2 : IntKind} (hl : (lo = none ∧ l = 0) ∨ ∃ k, lo = some (.int k l)) (hh : ∃ k, hi = some (.int k h)) (hm : mx = some (.int k2 m))
    (h0 : 0 ≤ l) (h1 : l ≤ h) (h2 : h ≤ m) (h3 : m ≤ cap) : (Instr.sliceBounds true len cap lo hi mx).run P w = .ok (l.toNat, h.toNat, m.toNat) w := by
  have eh : (h.toNat : Int) = h := Int.toNat_of_nonneg (by omega)
  have em : (m.toNat : Int) = m := Int.toNat_of_nonneg (by omega)
  have hp : 0 ≤ h := by omega
  have hp' : 0 ≤ m := by omega
  obtain ⟨k', rfl⟩ := hh
  subst hm
  rcases hl with ⟨rfl, hl⟩ | ⟨k, rfl⟩
  · subst hl; simp [Instr.sliceBounds, run_sliceBound, hp, hp', h2, h3, em]
  · simp [Instr.sliceBounds, run_sliceBound, h0, h1, h2, h3, eh, em, hp, hp']
theorem sl3_good {t e : TypeId} {x hi mx : Operand} {lo : Option Operand} {vx vh vm : VX} {vl : Option VX} {i : TypeInfo} (ho : o.op = .slice t x lo (some hi) (some mx)) (hu : P.underlying t = some (.slice e)) (hi' : P.info? e = some i) (hx : cX x = some vx) (hl : cXo lo = some vl) (hh : cX hi = some vh) (hm : cX mx = some vm)
    (hS : SlotsOk ρ n ds sl a) (hR : Rep ρ M w) (h : opW G P false sl M nid (.sl3 i.size vx vl (some vh) (some vm)) K) : Good P o a ρ M w nid nw K := by
  simp only [opW] at h
  have hsz : (sizeOf e).run P w = .ok i.size w := by simp [sizeOf, typeInfo, hi']
  have hho : cXo (some hi) = some (some vh) := by simp [cXo, hh]
  have hmo : cXo (some mx) = some (some vm) := by simp [cXo, hm]
  split at h
  · rename_i b off k c he
    obtain ⟨p, ad, cap, hp, hv, had, hlc, hcap⟩ := env_is hS hx he
    obtain ⟨l, h, hl'⟩ := intOfX_is hS hl h
    obtain ⟨m, h, hh'⟩ := intOfX_is hS hho h
    obtain ⟨q, ⟨⟨h0, h1, h2, h3⟩, hK⟩, hm'⟩ := intOfX_is hS hmo h
    rcases hh' with ⟨h9, _⟩ | ⟨y, kh, hy1, hy2⟩
    · cases h9
    rcases hm' with ⟨h9, _⟩ | ⟨y', km, hm1, hm2⟩
    · cases h9
    cases hy1; cases hm1
    have hb := run_bounds3 (P := P) (w := w) (len := k) (cap := cap) (lo := lo.map a.eval) (hi := some (a.eval hi)) (mx := some (a.eval mx)) (l := l) (h := m) (m := q) (k2 := km)
      (by rcases hl' with ⟨rfl, rfl⟩ | ⟨y, k, rfl, hy⟩ <;> simp_all) ⟨kh, by rw [hy2]⟩ (by rw [hm2]) h0 h1 h2 (by omega)
    have hrun : (execOp a.eval o).run P w = .ok (.value (.slice (some (if q.toNat = l.toNat then ad else ad.add (l.toNat * i.size))) (m.toNat - l.toNat) (q.toNat - l.toNat))) w := by
      refine run_v (f := Instr.sliceAt t (a.eval x) (lo.map a.eval) (some (a.eval hi)) (some (a.eval mx))) (by unfold execOp; rw [ho]; rfl) ?_
      rw [hv]
      simp only [Instr.sliceAt, Sem.run_bind, run_underlying hu, Result.andThen_ok, Instr.slice, hb, hsz, Sem.run_pure]
      by_cases hc : q.toNat = l.toNat
      · simp [hc]
      · simp [hc]
    have hadd : q.toNat - l.toNat = 0 ∨ (if q.toNat = l.toNat then ad else ad.add (l.toNat * i.size)) = ⟨p.blk, p.base + (off + l.toNat * i.size), none⟩ := by
      by_cases hc : q.toNat ≤ l.toNat
      · exact .inl (by omega)
      · rcases had with h' | h'
        · omega
        · right; rw [if_neg (by omega), h', Addr.add_mid, Nat.add_assoc]
    exact good_read hR hrun hK ⟨p, _, _, hp, rfl, hadd, by omega, rfl⟩
  · rename_i he
    have hA : a.eval x = .slice none 0 0 := env_is hS hx he
    obtain ⟨l, h, hl'⟩ := intOfX_is hS hl h
    obtain ⟨m, h, hh'⟩ := intOfX_is hS hho h
    obtain ⟨q, ⟨⟨h0, h1, h2⟩, hK⟩, hm'⟩ := intOfX_is hS hmo h
    rcases hh' with ⟨h9, _⟩ | ⟨y, kh, hy1, hy2⟩
    · cases h9
    rcases hm' with ⟨h9, _⟩ | ⟨y', km, hm1, hm2⟩
    · cases h9
    cases hy1; cases hm1
    subst h0; subst h1; subst h2
    have hb := run_bounds3 (P := P) (w := w) (len := 0) (cap := 0) (lo := lo.map a.eval) (hi := some (a.eval hi)) (mx := some (a.eval mx)) (l := 0) (h := 0) (m := 0) (k2 := km)
      (by rcases hl' with ⟨rfl, _⟩ | ⟨y, k, rfl, hy⟩ <;> simp_all) ⟨kh, by rw [hy2]⟩ (by rw [hm2]) (by omega) (by omega) (by omega) (by omega)
    refine good_read hR (run_v (f := Instr.sliceAt t (a.eval x) (lo.map a.eval) (some (a.eval hi)) (some (a.eval mx))) (by unfold execOp; rw [ho]; rfl) ?_) hK (v := vO .nils) (u := .slice none 0 0) rfl
    rw [hA]
    simp [Instr.sliceAt, run_underlying hu, Instr.slice, hb, hsz]
  · exact h.elim
theorem flat_all : ∀ {l : List SV}, (∀ i s, nth l i = some s → s.flat = true) → allFlat l = true
  | [], _ => rfl
  | s :: l, h => by
    have h1 := h 0 s rfl
    simp only [allFlat, h1]
    exact flat_all fun i t hi => h (i + 1) t hi
theorem clr_good {c : Call} {x : Operand} {t e : TypeId} {z : List SV} {vx : VX} (ho : o.op = .call c) (hc : c.callee = .builtin .clear) (ha : c.args.toList = [x]) (ht : c.argTypes.toList = [t]) (hu : P.underlying t = some (.slice e)) (hz : zeroL P e = some z) (hx : cX x = some vx)
    (hS : SlotsOk ρ n ds sl a) (hR : Rep ρ M w) (h : opW G P false sl M nid (.clr z vx) K) : Good P o a ρ M w nid nw K := by
  obtain ⟨i', zz, hi', hzz, hzl⟩ := zeroL_some hz
  have run {u : Value} {w' : World} (hf : (Builtin.clear_ #[t] o.type #[a.eval x]).run P w = .ok u w') : (execOp a.eval o).run P w = .ok (.value u) w' :=
    run_bw (f := Builtin.clear_ #[t] o.type #[a.eval x]) ho hc (fun cs => by rw [arr1 ha, arr1' ht]; rfl) hf
  simp only [opW] at h
  split at h
  · rename_i b off k cc he
    split at h
    case h_2 => exact h.elim
    rename_i sym l hrow
    obtain ⟨hbd, hK⟩ := h
    obtain ⟨p, ad, cap, hp, hv, had, hlc, hcap⟩ := env_is hS hx he
    obtain ⟨q, hq, hr⟩ := hR.rows b (by rw [hrow]; rfl)
    rw [hp] at hq; cases hq
    rw [hrow] at hr
    obtain ⟨hb, hcells, hflat, hrw⟩ := hr
    obtain ⟨hbl, c', T, lo, hi2, hheap, hcs', hz'⟩ := hrw rfl
    have hL := zeros_isL (svsOf_is (ρ := ρ) hzl) k
    have hzsz : zz.cells.size = lenS z := by
      have := isL_len (svsOf_is (ρ := ρ) hzl)
      simp only [Array.length_toList] at this; omega
    have hL' : isL ρ (repeatL z k) (Builtin.zeroCells zz.cells k).toList := by
      rw [Builtin.zeroCells, hzsz]; rw [hzsz] at hL; exact hL
    have hlenr := isL_len hL'
    rw [lenS_repeatL] at hlenr
    have hfl : allFlat (repeatL z k) = true := by
      refine flat_all fun j s hj => ?_
      have hlt := nth_lt hj
      rw [lenS_repeatL] at hlt
      rw [nth_repeatL _ _ _ hlt] at hj
      exact svsOf_flat hzl _ s hj
    obtain ⟨g1, g2⟩ := write_row (sym' := sym) (l2 := setN l off (repeatL z k)) (o := off) hR hrow hp hL' (by rw [lenS_repeatL]; omega) (by rw [lenS_setN]; exact hbl)
      (fun j s hj h4 h5 => by rw [nth_setN _ _ _ _ (by rw [lenS_repeatL]; omega), if_pos ⟨h4, h5⟩] at hj; exact hj)
      (fun j s hj h4 => by rw [nth_setN _ _ _ _ (by rw [lenS_repeatL]; omega), if_neg (by omega)] at hj; exact hj)
      (fun hs j s hj => by
        rw [nth_setN _ _ _ _ (by rw [lenS_repeatL]; omega)] at hj
        split at hj
        · exact allFlat_iff hfl _ _ hj
        · exact hflat hs _ _ hj)
    have ht : w.there p.blk (p.base + off) (Builtin.zeroCells zz.cells k).toList.length := there_of hheap hcs' hz' (by omega)
    have hzv : (zeroValue e).run P w = .ok zz w := by simp [zeroValue, typeInfo, hi', hzz]
    refine good_run (e := ⟨some (.t []), [(b, .row true sym (setN l off (repeatL z k)))], [], [b]⟩) (u := .tuple #[]) (run ?_) hK g1 g2 ⟨#[], rfl, rfl⟩ (fun _ _ => rfl)
    rw [hv]
    by_cases hk : k = 0
    · subst hk
      have : (Builtin.zeroCells zz.cells 0).toList = [] := List.eq_nil_of_length_eq_zero (by rw [hlenr, Nat.zero_mul])
      rw [this]
      simp [Builtin.clear_, run_underlying hu, World.setCells]
    · rcases had with h0 | h0
      · omega
      · have hst := run_storeCells_cells (P := P) p.blk (p.base + off) (Builtin.zeroCells zz.cells k).toList 0 w (fun j hj => by simpa using (ht j hj).1) (fun j hj => by simpa using (ht j hj).2) (oneCells_of_isL hL')
        simp only [Nat.add_zero] at hst
        rw [h0]
        obtain ⟨m, rfl⟩ : ∃ m, k = m + 1 := ⟨k - 1, by omega⟩
        simp [Builtin.clear_, run_underlying hu, hzv, hst]
  · rename_i he
    have hA : a.eval x = .slice none 0 0 := env_is hS hx he
    refine good_run (e := ⟨some (.t []), [], [], []⟩) (u := .tuple #[]) (run ?_) h hR (Ev.refl _ _ _) ⟨#[], rfl, rfl⟩ (fun _ _ => rfl)
    rw [hA]
    simp [Builtin.clear_, run_underlying hu]
  · exact h.elim
end Go.Proofs.Ytmdfkggflainbaa.VM
