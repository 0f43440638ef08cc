/- The evaluator: maps, copies. -/
import Derived.Test.YtmdfkggflainbaaVmL
import Derived.Maps.RangeRun
import Derived.MapKept
import Derived.WideKeyRuns
namespace Go.Proofs.Ytmdfkggflainbaa.VM
open Go.RowKit
set_option linter.unusedVariables false
set_option linter.unusedSimpArgs false
variable {G : Ground} {P : Program} {ds : List Deferred} {eqs : List Nat} {news : FuncId → Nat} {ρ : PMap} {M : List Row} {w : World} {sl : Env} {a : Act} {n nid : Nat} {o : Oper} {nw : Nat} {K : Eff → Prop}
/-! keys -/
def kcells : PV → List SV
  | .o s => [s]
  | .a l => l
theorem eqK_cells {q : Bool} {ks : List CK} {x y : PV} {c : Bool} (h : eqK q ks x y = some c) : eqCells ks (kcells x) (kcells y) = some c ∧
    ((q = false ∧ ∃ s t, x = .o s ∧ y = .o t) ∨ (q = true ∧ ∃ l m, x = .a l ∧ y = .a m)) := by
  cases x <;> cases y <;> cases q <;> simp only [eqK] at h <;> first | (cases h; done) | exact ⟨h, .inl ⟨rfl, _, _, rfl, rfl⟩⟩ | exact ⟨h, .inr ⟨rfl, _, _, rfl, rfl⟩⟩
theorem repr_key {q : Bool} {x : PV} {t : TypeId} (hq : isSct (P.underlying t) = q) (hf : flatP x = true) (hs : (q = false ∧ ∃ s, x = .o s) ∨ (q = true ∧ ∃ l, x = .a l)) : Repr (fun _ => none) (isSct (P.underlying t)) (kcells x) (pvVal x) := by
  rw [hq]
  rcases hs with ⟨rfl, s, rfl⟩ | ⟨rfl, l, rfl⟩
  · exact ⟨s, rfl, (sv_iff hf).2 rfl⟩
  · exact ⟨_, rfl, (sl_iff hf).2 rfl⟩
theorem run_equal_key (hk : Known P eqs) {kt : TypeId} {ks : List CK} {q c : Bool} {x y : PV} (hks : flatKs P eqs 20 kt = some ks) (hq : isSct (P.underlying kt) = q) (fx : flatP x = true) (fy : flatP y = true) (h : eqK q ks x y = some c) :
    (Op.equal kt (pvVal x) (pvVal y)).run P w = .ok c w := by
  obtain ⟨h1, h2⟩ := eqK_cells h
  refine eq_flat (ρ := fun _ => none) hk 20 10000 (by omega) kt ks _ _ c _ _ w hks h1 (repr_key hq fx ?_) (repr_key hq fy ?_)
  · rcases h2 with ⟨e, s, t, rfl, rfl⟩ | ⟨e, s, t, rfl, rfl⟩
    · exact .inl ⟨e, _, rfl⟩
    · exact .inr ⟨e, _, rfl⟩
  · rcases h2 with ⟨e, s, t, rfl, rfl⟩ | ⟨e, s, t, rfl, rfl⟩
    · exact .inl ⟨e, _, rfl⟩
    · exact .inr ⟨e, _, rfl⟩
/-- The first entry with that key. -/
def mat (q : Bool) (ks : List CK) (k : PV) : List MEnt → Nat → Option (Option (Nat × MEnt))
  | [], _ => some none
  | e :: es, i => match eqK q ks k e.key with
    | some true => some (some (i, e))
    | some false => mat q ks k es (i + 1)
    | none => none
theorem mat_find {q : Bool} {ks : List CK} {k : PV} : ∀ (es : List MEnt) (i : Nat) {r : Option PV}, mfind q ks k es = some r → ∃ r', mat q ks k es i = some r' ∧ r'.map (fun x => x.2.val) = r
  | [], i, r, h => by cases h; exact ⟨none, rfl, rfl⟩
  | e :: es, i, r, h => by
    simp only [mfind] at h
    simp only [mat]
    split at h
    · rename_i he; cases h; exact ⟨_, by rw [he], rfl⟩
    · rename_i he; rw [he]; exact mat_find es (i + 1) h
    · cases h
theorem mat_at {q : Bool} {ks : List CK} {k : PV} : ∀ (es : List MEnt) (i : Nat) {j : Nat} {e : MEnt}, mat q ks k es i = some (some (j, e)) → i ≤ j ∧ es[j - i]? = some e ∧ eqK q ks k e.key = some true
  | [], i, j, e, h => by cases h
  | x :: es, i, j, e, h => by
    simp only [mat] at h
    split at h
    · rename_i he; cases h; exact ⟨Nat.le_refl _, by simp, he⟩
    · obtain ⟨h1, h2, h3⟩ := mat_at es (i + 1) h
      refine ⟨by omega, ?_, h3⟩
      rw [show j - i = (j - (i + 1)) + 1 by omega]; simpa using h2
    · cases h
theorem mat_put {q : Bool} {ks : List CK} {k v : PV} : ∀ (es : List MEnt) (i c : Nat) {es' : List MEnt} {c' : Nat}, mput q ks k v es c = some (es', c') →
    (∃ j e, mat q ks k es i = some (some (j, e)) ∧ c' = c ∧ es' = es.set (j - i) ⟨k, v, e.born⟩) ∨ (mat q ks k es i = some none ∧ c' = c + 1 ∧ es' = es ++ [⟨k, v, c⟩])
  | [], i, c, es', c', h => by cases h; exact .inr ⟨rfl, rfl, rfl⟩
  | e :: es, i, c, es', c', h => by
    simp only [mput] at h
    simp only [mat]
    split at h
    · rename_i he; cases h; exact .inl ⟨i, e, by rw [he], rfl, by simp⟩
    · rename_i he
      split at h
      · rename_i es2 c2 h2
        cases h
        rw [he]
        rcases mat_put es (i + 1) c h2 with ⟨j, e', g1, g2, g3⟩ | ⟨g1, g2, g3⟩
        · have := (mat_at es (i + 1) g1).1
          exact .inl ⟨j, e', g1, g2, by rw [g3, show j - i = (j - (i + 1)) + 1 by omega, List.set_cons_succ]⟩
        · exact .inr ⟨g1, g2, by rw [g3]; rfl⟩
      · cases h
    · cases h
theorem mat_drop {q : Bool} {ks : List CK} {k : PV} : ∀ (es : List MEnt) (i : Nat) {es' : List MEnt}, mdrop q ks k es = some es' →
    (∃ j e, mat q ks k es i = some (some (j, e)) ∧ es' = es.eraseIdx (j - i)) ∨ (mat q ks k es i = some none ∧ es' = es)
  | [], i, es', h => by cases h; exact .inr ⟨rfl, rfl⟩
  | e :: es, i, es', h => by
    simp only [mdrop] at h
    simp only [mat]
    split at h
    · rename_i he; cases h; exact .inl ⟨i, e, by rw [he], by simp⟩
    · rename_i he
      split at h
      · rename_i es2 h2
        cases h
        rw [he]
        rcases mat_drop es (i + 1) h2 with ⟨j, e', g1, g3⟩ | ⟨g1, g3⟩
        · have := (mat_at es (i + 1) g1).1
          exact .inl ⟨j, e', g1, by rw [g3, show j - i = (j - (i + 1)) + 1 by omega, List.eraseIdx_cons_succ]⟩
        · exact .inr ⟨g1, by rw [g3]⟩
      · cases h
    · cases h
theorem run_asking (hk : Known P eqs) {kt : TypeId} {ks : List CK} {q : Bool} {k : PV} (hks : flatKs P eqs 20 kt = some ks) (hq : isSct (P.underlying kt) = q) (fk : flatP k = true) : ∀ (es : List MEnt) (i : Nat) (r : Option (Nat × MEnt)), mat q ks k es i = some r → (∀ e ∈ es, flatP e.key = true) →
    (Instr.findAsking kt (pvVal k) (es.map MEnt.obj) i).run P w = .ok (r.map fun x => (x.1, pvVal x.2.val)) w
  | [], i, r, h, _ => by cases h; rfl
  | e :: es, i, r, h, hf => by
    simp only [mat] at h
    have ih := run_asking hk hks hq fk es (i + 1)
    simp only [List.map_cons, Instr.findAsking, Sem.run_bind]
    split at h
    · rename_i he
      cases h
      rw [show (MEnt.obj e).key = pvVal e.key from rfl, run_equal_key hk hks hq fk (hf e (.head _)) he]
      rfl
    · rename_i he
      rw [show (MEnt.obj e).key = pvVal e.key from rfl, run_equal_key hk hks hq fk (hf e (.head _)) he]
      exact ih r h fun x hx => hf x (.tail _ hx)
    · cases h
theorem toList_beq (s t : ByteArray) : (s.toList == t.toList) = (s == t) := by
  have : s.toList = t.toList ↔ s = t := by
    rw [ByteArray.toList_eq, ByteArray.toList_eq]
    constructor
    · intro h; cases s; cases t; congr; exact Array.toList_inj.1 h
    · rintro rfl; rfl
  rw [Bool.eq_iff_iff, beq_iff_eq, this, MapKept.bytes_beq]
theorem run_find (hk : Known P eqs) {kt : TypeId} {ks : List CK} {q : Bool} {k : PV} (hks : flatKs P eqs 20 kt = some ks) (hq : isSct (P.underlying kt) = q) (fk : flatP k = true) (es : List MEnt) (r : Option (Nat × MEnt)) (h : mat q ks k es 0 = some r) (hf : ∀ e ∈ es, flatP e.key = true) :
    (Instr.findKey kt (pvVal k) (es.map MEnt.obj)).run P w = .ok (r.map fun x => (x.1, pvVal x.2.val)) w := by
  have ask := run_asking (w := w) hk hks hq fk es 0 r h hf
  cases hu : P.underlying kt with
  | none => simp [flatKs, hu] at hks
  | some d =>
    by_cases hs : isSct (some d) = true
    · rw [run_findKey_eq w (by cases d <;> simp_all [isSct])]
      exact ask
    · have key : ∀ (es : List MEnt) (i : Nat) (r : Option (Nat × MEnt)), mat q ks k es i = some r → Instr.findNow d (pvVal k) (es.map MEnt.obj) i = some (r.map fun x => (x.1, pvVal x.2.val)) := by
        intro es
        induction es with
        | nil => intro i r h; cases h; rfl
        | cons e es ih =>
          intro i r h
          simp only [mat] at h
          have same : ∀ c, eqK q ks k e.key = some c → Instr.sameNow d (pvVal k) (pvVal e.key) = some c := fun c hc => by
            obtain ⟨h1, h2⟩ := eqK_cells hc
            rw [hu] at hq
            subst hq
            rcases h2 with ⟨_, s, t, e1, e2⟩ | ⟨h3, _⟩
            · rw [e1, e2] at h1 ⊢
              simp only [kcells] at h1
              simp only [flatKs, hu] at hks
              cases d <;> simp [isSct] at hs hks
              · subst hks
                cases s <;> cases t <;> simp [eqCells] at h1
                subst h1; rfl
              · subst hks
                cases s <;> cases t <;> simp only [eqCells] at h1 <;> try (cases h1; done)
                split at h1
                · rename_i g1 g2 g3
                  cases g3
                  simp only [decide_eq_true_eq] at g1 g2
                  subst g1; subst g2
                  cases h1
                  simp [pvVal, svVal, Instr.sameNow]
                · cases h1
              · subst hks
                cases s <;> cases t <;> simp [eqCells] at h1
                subst h1
                simp [pvVal, svVal, Instr.sameNow, toList_beq]
            · exact absurd h3 hs
          simp only [List.map_cons, Instr.findNow]
          split at h
          · rename_i he
            cases h
            rw [show (MEnt.obj e).key = pvVal e.key from rfl, same true he]
            rfl
          · rename_i he
            rw [show (MEnt.obj e).key = pvVal e.key from rfl, same false he]
            exact ih (i + 1) r h
          · cases h
      simp [Instr.findKey, run_underlying hu, key es 0 r h]
theorem cellsK_append : ∀ {k1 k2 : List CK} {l : List SV}, cellsK (k1 ++ k2) l = true → ∃ l1 l2, l = l1 ++ l2 ∧ lenS l1 = k1.length ∧ cellsK k1 l1 = true ∧ cellsK k2 l2 = true
  | [], k2, l, h => ⟨[], l, rfl, rfl, rfl, h⟩
  | .int q :: k1, k2, l, h => by
    cases l with
    | nil => simp [cellsK] at h
    | cons s l =>
      cases s <;> simp only [List.cons_append, cellsK] at h <;> try (cases h; done)
      split at h
      · rename_i hd
        obtain ⟨l1, l2, rfl, e2, e3, e4⟩ := cellsK_append h
        exact ⟨_ :: l1, l2, rfl, by simp [lenS, e2], by simp [cellsK, hd, e3], e4⟩
      · cases h
  | .bool :: k1, k2, l, h => by
    cases l with
    | nil => simp [cellsK] at h
    | cons s l =>
      cases s <;> simp only [List.cons_append, cellsK] at h <;> try (cases h; done)
      obtain ⟨l1, l2, rfl, e2, e3, e4⟩ := cellsK_append h
      exact ⟨_ :: l1, l2, rfl, by simp [lenS, e2], by simp [cellsK, e3], e4⟩
  | .str :: k1, k2, l, h => by
    cases l with
    | nil => simp [cellsK] at h
    | cons s l =>
      cases s <;> simp only [List.cons_append, cellsK] at h <;> try (cases h; done)
      obtain ⟨l1, l2, rfl, e2, e3, e4⟩ := cellsK_append h
      exact ⟨_ :: l1, l2, rfl, by simp [lenS, e2], by simp [cellsK, e3], e4⟩
theorem cellsK_flat : ∀ {ks : List CK} {l : List SV}, cellsK ks l = true → allFlat l = true
  | [], l, h => by cases l <;> simp_all [cellsK, allFlat]
  | .int q :: ks, l, h => by
    cases l with
    | nil => simp [cellsK] at h
    | cons s l =>
      cases s <;> simp only [cellsK] at h <;> try (cases h; done)
      split at h
      · exact (by simp only [allFlat, SV.flat]; exact cellsK_flat h)
      · cases h
  | .bool :: ks, l, h => by
    cases l with
    | nil => simp [cellsK] at h
    | cons s l =>
      cases s <;> simp only [cellsK] at h <;> try (cases h; done)
      simp only [allFlat, SV.flat]; exact cellsK_flat h
  | .str :: ks, l, h => by
    cases l with
    | nil => simp [cellsK] at h
    | cons s l =>
      cases s <;> simp only [cellsK] at h <;> try (cases h; done)
      simp only [allFlat, SV.flat]; exact cellsK_flat h
theorem keyOk_flat {q : Bool} {ks : List CK} {k : PV} (h : keyOk q ks k = true) : flatP k = true := by
  cases k with
  | o s =>
    simp only [keyOk] at h
    split at h
    · have := cellsK_flat h
      simp only [allFlat] at this
      split at this
      · assumption
      · cases this
    · cases h
  | a l =>
    simp only [keyOk] at h
    split at h
    · exact cellsK_flat h
    · cases h
theorem sameBits_cells : ∀ {ks : List CK} {l : List SV}, cellsK ks l = true → ∀ n, ((slVal l).zip (slVal l)).all (fun (x, y) => Instr.sameBits n x y) = true
  | [], l, h, n => by cases l <;> simp_all [cellsK, slVal]
  | .int q :: ks, l, h, n => by
    cases l with
    | nil => simp [cellsK] at h
    | cons s l =>
      cases s <;> simp only [cellsK] at h <;> try (cases h; done)
      split at h
      · simp only [slVal, List.zip_cons_cons, List.all_cons, sameBits_cells h n, Bool.and_true, svVal]; cases n <;> simp [Instr.sameBits]
      · cases h
  | .bool :: ks, l, h, n => by
    cases l with
    | nil => simp [cellsK] at h
    | cons s l =>
      cases s <;> simp only [cellsK] at h <;> try (cases h; done)
      simp only [slVal, List.zip_cons_cons, List.all_cons, sameBits_cells h n, Bool.and_true, svVal]; cases n <;> simp [Instr.sameBits]
  | .str :: ks, l, h, n => by
    cases l with
    | nil => simp [cellsK] at h
    | cons s l =>
      cases s <;> simp only [cellsK] at h <;> try (cases h; done)
      simp only [slVal, List.zip_cons_cons, List.all_cons, sameBits_cells h n, Bool.and_true, svVal]; cases n <;> exact (MapKept.bytes_beq _ _).2 rfl
theorem sameBits_key {q : Bool} {ks : List CK} {k : PV} (h : keyOk q ks k = true) (n : Nat) : Instr.sameBits (n + 1) (pvVal k) (pvVal k) = true := by
  cases k with
  | o s =>
    simp only [keyOk] at h
    split at h
    · have := sameBits_cells h (n + 1)
      simpa [slVal, pvVal] using this
    · cases h
  | a l =>
    simp only [keyOk] at h
    split at h
    · have := sameBits_cells h n
      simpa [pvVal, Instr.sameBits] using this
    · cases h
theorem eqCells_same : ∀ {ks : List CK} {l m : List SV}, eqCells ks l m = some true → slVal l = slVal m
  | [], l, m, h => by cases l <;> cases m <;> simp_all [eqCells]
  | .int q :: ks, l, m, h => by
    cases l with
    | nil => simp [eqCells] at h
    | cons s l =>
      cases m with
      | nil => cases s <;> simp [eqCells] at h
      | cons t m =>
        cases s <;> cases t <;> simp only [eqCells] at h <;> try (cases h; done)
        split at h
        · rename_i c g1 g2 g3
          simp only [decide_eq_true_eq] at g1 g2
          subst g1; subst g2
          simp only [Option.some.injEq, Bool.and_eq_true, beq_iff_eq] at h
          obtain ⟨rfl, rfl⟩ := h
          simp only [slVal, eqCells_same g3]
        · cases h
  | .bool :: ks, l, m, h => by
    cases l with
    | nil => simp [eqCells] at h
    | cons s l =>
      cases m with
      | nil => cases s <;> simp [eqCells] at h
      | cons t m =>
        cases s <;> cases t <;> simp only [eqCells] at h <;> try (cases h; done)
        split at h
        · rename_i c g3
          simp only [Option.some.injEq, Bool.and_eq_true, beq_iff_eq] at h
          obtain ⟨rfl, rfl⟩ := h
          simp only [slVal, eqCells_same g3]
        · cases h
  | .str :: ks, l, m, h => by
    cases l with
    | nil => simp [eqCells] at h
    | cons s l =>
      cases m with
      | nil => cases s <;> simp [eqCells] at h
      | cons t m =>
        cases s <;> cases t <;> simp only [eqCells] at h <;> try (cases h; done)
        split at h
        · rename_i c g3
          simp only [Option.some.injEq, Bool.and_eq_true, toList_beq, MapKept.bytes_beq] at h
          obtain ⟨rfl, rfl⟩ := h
          simp only [slVal, eqCells_same g3]
        · cases h
theorem eqK_same {q : Bool} {ks : List CK} {x y : PV} (h : eqK q ks x y = some true) : pvVal x = pvVal y := by
  obtain ⟨h1, h2⟩ := eqK_cells h
  have := eqCells_same h1
  rcases h2 with ⟨_, s, t, rfl, rfl⟩ | ⟨_, s, t, rfl, rfl⟩
  · simpa [kcells, slVal, pvVal] using this
  · simp only [kcells] at this; simp [pvVal, this]
theorem svOf_val {v : Value} {s : SV} (h : svOf v = some s) : svVal s = v := by
  unfold svOf at h
  split at h <;> cases h <;> rfl
theorem svsOf_val : ∀ {l : List Value} {c : List SV}, svsOf l = some c → slVal c = l
  | [], c, h => by simp only [svsOf, Option.some.injEq] at h; subst h; rfl
  | v :: l, c, h => by
    simp only [svsOf] at h
    split at h
    · rename_i s r h1 h2
      simp only [Option.some.injEq] at h
      subst h
      simp only [slVal, svOf_val h1, svsOf_val h2]
    · cases h
theorem pvOf_val {v : Value} {p : PV} (h : pvOf v = some p) : pvVal p = v := by
  unfold pvOf at h
  split at h
  · split at h
    · rename_i cs _ l hl
      cases h
      simp [pvVal, svsOf_val hl]
    · cases h
  · split at h
    · rename_i s hs
      cases h
      exact svOf_val hs
    · cases h
end Go.Proofs.Ytmdfkggflainbaa.VM
