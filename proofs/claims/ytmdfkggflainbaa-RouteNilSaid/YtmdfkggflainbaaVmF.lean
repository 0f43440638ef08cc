/- The evaluator: each operation does in the model what it does there. -/
import Derived.Test.YtmdfkggflainbaaVmD
import Derived.OrdersIn
import Derived.Laws.IdiomStrings
import Derived.Laws.IdiomCopy
import Derived.Laws.OwnMore
namespace Go.Proofs.Ytmdfkggflainbaa.VM
open Go.RowKit
set_option linter.unusedVariables false
set_option linter.unusedSimpArgs false
variable {G : Ground} {P : Program} {ds : List Deferred} {eqs : List Nat} {news : FuncId → Nat} {ρ : PMap} {M : List Row} {w : World} {sl : Env} {a : Act} {n nid : Nat}
structure SlotsOk (ρ : PMap) (n : Nat) (ds : List Deferred) (sl : Env) (a : Act) : Prop where
  size : a.tmps.size = n
  defers : a.defers = ds
  ok : ∀ t v, sl t = some v → ∃ u, a.tmps[t]? = some u ∧ v.Is ρ u
theorem svOf_is {v : Value} {s : SV} (h : svOf v = some s) : s.Is ρ v := by
  unfold svOf at h
  split at h <;> cases h <;> rfl
theorem svsOf_is : ∀ {l : List Value} {c : List SV}, svsOf l = some c → isL ρ c l
  | [], c, h => by simp only [svsOf, Option.some.injEq] at h; subst h; rfl
  | v :: l, c, h => by
    simp only [svsOf] at h
    split at h
    · rename_i s r h1 h2
      simp only [Option.some.injEq] at h
      subst h
      exact ⟨v, l, rfl, svOf_is h1, svsOf_is h2⟩
    · cases h
theorem pvOf_is {v : Value} {p : PV} (h : pvOf v = some p) : p.Is ρ v := by
  unfold pvOf at h
  split at h
  · split at h
    · rename_i cs _ l hl
      cases h
      exact ⟨cs, rfl, svsOf_is hl⟩
    · cases h
  · split at h
    · rename_i s hs
      cases h
      exact svOf_is hs
    · cases h
theorem env_is (hS : SlotsOk ρ n ds sl a) {o : Operand} {x : VX} {v : V} (hx : cX o = some x) (he : env sl x = some v) : v.Is ρ (a.eval o) := by
  cases o with
  | tmp t =>
    cases hx
    obtain ⟨u, h1, h2⟩ := hS.ok t v he
    have : a.eval (.tmp t) = u := by simp [Act.eval, Array.getD_eq_getD_getElem?, h1]
    rw [this]; exact h2
  | const c =>
    simp only [cX] at hx
    split at hx
    · rename_i p hp
      cases hx; cases he
      exact pvOf_is hp
    · cases hx
  | func f => cases hx; cases he; exact ⟨#[], rfl, rfl⟩
  | global g => cases hx; cases he; rfl
theorem envPs_is (hS : SlotsOk ρ n ds sl a) : ∀ {os : List Operand} {xs : List VX} {vs : List PV}, cXs os = some xs → envPs sl xs = some vs → isPL ρ vs (os.map a.eval)
  | [], xs, vs, h, h' => by
    cases h
    simp only [envPs, Option.some.injEq] at h'
    subst h'; rfl
  | o :: os, xs, vs, h, h' => by
    simp only [cXs] at h
    split at h
    · rename_i y r h1 h2
      cases h
      simp only [envPs] at h'
      split at h'
      · rename_i p hp
        split at h'
        · rename_i l hl
          cases h'
          exact ⟨_, _, rfl, env_is hS h1 hp, envPs_is hS h2 hl⟩
        · cases h'
      · cases h'
    · cases h
theorem envCaps_is (hS : SlotsOk ρ n ds sl a) : ∀ {os : List Operand} {xs : List VX} {vs : List (Nat × Nat)}, cXs os = some xs → envCaps sl xs = some vs → capsIs ρ vs (os.map a.eval)
  | [], xs, vs, h, h' => by
    cases h
    simp only [envCaps, Option.some.injEq] at h'
    subst h'; rfl
  | o :: os, xs, vs, h, h' => by
    simp only [cXs] at h
    split at h
    · rename_i y r h1 h2
      cases h
      simp only [envCaps] at h'
      split at h'
      · rename_i b o' hp
        split at h'
        · rename_i l hl
          cases h'
          obtain ⟨p, hp1, hp2⟩ := env_is hS h1 hp
          exact ⟨p, _, hp1, by simp [hp2], envCaps_is hS h2 hl⟩
        · cases h'
      · cases h'
    · cases h
def ValIs (ρ : PMap) : Option V → Value → Prop
  | some v, u => v.Is ρ u
  | none, u => u = undef
/-- An operation, in whatever frame: no function is barred. -/
def Oper.wpX (P : Program) (o : Oper) (a : Act) (w : World) (next : Act → World → Prop) (Q : Exit → Act → World → Prop) : Prop := o.uponIn Fence.wide 0 P a next Q ((execOp a.eval o).run P w)
/-- A frame of a function, or of a round of loop l. -/
def fz (r : Option Nat) : Fence := { Fence.wide with round := r }
theorem wpIn_of_wpX {o : Oper} {a : Act} {w : World} {next : Act → World → Prop} {Q : Exit → Act → World → Prop} (r : Option Nat) (h : ∀ c, o.op ≠ .defer c) (hx : Oper.wpX P o a w next Q) : o.wpIn (fz r) 0 P a w next Q := by
  refine ⟨fun _ _ => trivial, ?_⟩
  rw [Oper.semAt_eq _ _ _ h]
  exact hx
/-- Operation o does what K says. -/
def Good (P : Program) (o : Oper) (a : Act) (ρ : PMap) (M : List Row) (w : World) (nid nw : Nat) (K : Eff → Prop) : Prop :=
  ∀ (next : Act → World → Prop) (Q : Exit → Act → World → Prop),
    (∀ e ρ' w' u, K e → Rep ρ' (app M e nid) w' → Ev ρ M w ρ' (app M e nid) w' → ValIs ρ' e.val u → (∀ i, (i < nid ∨ nid + nw ≤ i) → ρ' i = ρ i) → next (a.put o.dst u) w') → Oper.wpX P o a w next Q
variable {o : Oper} {nw : Nat} {K : Eff → Prop}
theorem good_run {u : Value} {e : Eff} {ρ' : PMap} {w' : World} (hr : (execOp a.eval o).run P w = .ok (.value u) w') (hK : K e) (hR : Rep ρ' (app M e nid) w') (hE : Ev ρ M w ρ' (app M e nid) w')
    (hv : ValIs ρ' e.val u) (hf : ∀ i, (i < nid ∨ nid + nw ≤ i) → ρ' i = ρ i) : Good P o a ρ M w nid nw K := fun next Q h => by
  unfold Oper.wpX; rw [hr]; exact h e ρ' w' u hK hR hE hv hf
theorem good_skip {e : Eff} {ρ' : PMap} {w' : World} (hr : (execOp a.eval o).run P w = .ok .skip w') (hK : K e) (hR : Rep ρ' (app M e nid) w') (hE : Ev ρ M w ρ' (app M e nid) w')
    (hv : e.val = none) (hf : ∀ i, (i < nid ∨ nid + nw ≤ i) → ρ' i = ρ i) : Good P o a ρ M w nid nw K := fun next Q h => by
  unfold Oper.wpX; rw [hr]; exact h e ρ' w' undef hK hR hE (by rw [hv]; rfl) hf
/-- An operation that leaves the world as it is, and reads. -/
theorem good_read {u : Value} {v : V} {ft : List Nat} (hR : Rep ρ M w) (hr : (execOp a.eval o).run P w = .ok (.value u) w) (hK : K ⟨some v, [], [], ft⟩) (hv : v.Is ρ u) : Good P o a ρ M w nid nw K :=
  good_run (e := ⟨some v, [], [], ft⟩) hr hK hR (Ev.refl _ _ _) hv (fun _ _ => rfl)
theorem run_v {f : Sem Value} {u : Value} {w' : World} (ho : execOp a.eval o = (do pure (.value (← f)))) (hf : f.run P w = .ok u w') : (execOp a.eval o).run P w = .ok (.value u) w' := by
  rw [ho]; simp [hf]

/-! types -/
theorem aggT_none {t : TypeId} (h : aggT P t = some none) : (isAgg t).run P w = .ok false w ∧ ∃ d, P.underlying t = some d ∧ d.isRow = false := by
  unfold aggT at h
  split at h
  · cases h
  · cases h
  · rename_i d i h1 h2 hu hi
    refine ⟨?_, d, hu, ?_⟩
    · simp only [isAgg, Sem.run_bind, run_underlying hu, Result.andThen_ok]
      cases d <;> simp_all
    · cases d <;> simp_all [TypeDesc.isRow]
  · cases h
theorem aggT_some {t : TypeId} {n : Nat} (h : aggT P t = some (some n)) : ∃ d, P.underlying t = some d ∧ d.isRow = true ∧ (P.info? t).map (·.size) = some n := by
  unfold aggT at h
  split at h
  · rename_i fs i hu hi
    simp only [Option.some.injEq] at h
    exact ⟨_, hu, rfl, by simp [hi, h]⟩
  · rename_i n e i hu hi
    simp only [Option.some.injEq] at h
    exact ⟨_, hu, rfl, by simp [hi, h]⟩
  · simp at h
  · cases h
theorem zeroL_some {t : TypeId} {l : List SV} (h : zeroL P t = some l) : ∃ i z, P.info? t = some i ∧ i.zero = some z ∧ svsOf z.cells.toList = some l := by
  unfold zeroL at h
  split at h
  · rename_i i hi
    split at h
    · rename_i z hz; exact ⟨i, z, hi, hz, h⟩
    · cases h
  · cases h
theorem fresh_of (nid : Nat) (p : Place) (i : Nat) (h : i < nid ∨ nid + 1 ≤ i) : upd ρ nid p i = ρ i := upd_other _ (by omega)
/-- A new row is made. -/
theorem good_new {u : Value} {v : V} {l : List SV} {sym : Bool} {c : Array Value} {T : TypeId} {lo hi : Nat} {ft : List Nat} {w' : World} (hR : Rep ρ M w) (hn : ρ nid = none) (hM : nid < lenR M) (hd : rowAt M nid = .dead)
    (hr : (execOp a.eval o).run P w = .ok (.value u) w') (hw : w'.heap = w.heap.push (.cells c T (lo, hi))) (h1 : w'.os = w.os) (h2 : w'.tape = w.tape) (h3 : w'.output = w.output) (hz : lo = hi ∨ c.size ≤ lo)
    (hK : K ⟨some v, [], [.row true sym l], ft⟩) (hl : lenS l ≤ c.size) (hc : ∀ i s, nth l i = some s → ∃ v, s.Is ρ v ∧ c[i]? = some v) (hf : sym = true → ∀ i s, nth l i = some s → s.flat = true)
    (hv : v.Is (upd ρ nid ⟨w.heap.size, 0, c.size⟩) u) : Good P o a ρ M w nid 1 K := by
  obtain ⟨g1, g2⟩ := new_row hR hn hM hw h1 h2 h3 hz hl hc hf hd
  exact good_run (e := ⟨some v, [], [.row true sym l], ft⟩) hr hK g1 g2 hv (fresh_of nid _)
theorem cells_of_isL {l : List SV} {c : Array Value} (h : isL ρ l c.toList) : lenS l ≤ c.size ∧ ∀ i s, nth l i = some s → ∃ v, s.Is ρ v ∧ c[i]? = some v := by
  have := isL_len h
  simp only [Array.length_toList] at this
  refine ⟨by omega, fun i s hi => ?_⟩
  obtain ⟨v, h1, h2⟩ := nth_isL h hi
  exact ⟨v, h2, by simpa using h1⟩
theorem mv_good {x : Operand} {vx : VX} {v : V} (ho : execOp a.eval o = pure (.value (a.eval x))) (hR : Rep ρ M w) (hS : SlotsOk ρ n ds sl a) (hx : cX x = some vx) (he : env sl vx = some v) (hK : K (val1 v)) : Good P o a ρ M w nid nw K :=
  good_read hR (by rw [ho]; rfl) hK (env_is hS hx he)
theorem new_good {t : TypeId} {l : List SV} (ho : o.op = .alloc t) (hz : zeroL P t = some l) (hR : Rep ρ M w) (hn : ρ nid = none) (hM : nid < lenR M) (hd : rowAt M nid = .dead)
    (hK : K ⟨some (vO (.ptr nid 0)), [], [.row true false l], []⟩) : Good P o a ρ M w nid 1 K := by
  obtain ⟨i, z, hi, hzz, hl⟩ := zeroL_some hz
  have hL := cells_of_isL (svsOf_is (ρ := ρ) hl)
  refine good_new hR hn hM hd (u := .pointer (some ⟨w.heap.size, 0, none⟩)) (w' := w.alloc (.cells z.cells t)) ?_ rfl rfl rfl rfl (.inl rfl) hK hL.1 hL.2 (fun h => by cases h) ⟨_, upd_same _ _ _, rfl⟩
  refine run_v (f := Instr.alloc t true (.tuple #[])) (by unfold execOp; rw [ho]) ?_
  simp [Instr.alloc, zeroValue, typeInfo, hi, hzz, newVar, newRow]
theorem box_good {t : TypeId} {x : Operand} {vx : VX} {p : PV} {l : List SV} (ho : o.op = .box t x) (hx : cX x = some vx) (he : env sl vx = some (.p p)) (hl : cellsOf (.p p) = some l) (hS : SlotsOk ρ n ds sl a) (hR : Rep ρ M w) (hn : ρ nid = none) (hM : nid < lenR M) (hd : rowAt M nid = .dead)
    (hK : K ⟨some (vO (.ptr nid 0)), [], [.row true false l], []⟩) : Good P o a ρ M w nid 1 K := by
  have hv := env_is hS hx he
  have hL : isL ρ l (a.eval x).cells.toList := by
    cases p with
    | o s =>
      cases hl
      have h1 : s.Is ρ (a.eval x) := hv
      have h2 := oneCell_of_Is h1
      have : (a.eval x).cells = #[a.eval x] := by
        cases hq : a.eval x <;> rw [hq] at h2 <;> simp_all [Value.cells, Value.oneCell']
      rw [this]
      exact ⟨_, _, rfl, h1, rfl⟩
    | a m =>
      cases hl
      obtain ⟨c, h1, h2⟩ := hv
      rw [h1]; exact h2
  have hC := cells_of_isL hL
  refine good_new hR hn hM hd (u := .pointer (some ⟨w.heap.size, 0, none⟩)) (w' := w.alloc (.cells (a.eval x).cells t)) ?_ rfl rfl rfl rfl (.inl rfl) hK hC.1 hC.2 (fun h => by cases h) ⟨_, upd_same _ _ _, rfl⟩
  refine run_v (f := Instr.box t (a.eval x)) (by unfold execOp; rw [ho]) ?_
  simp [Instr.box, newVar, newRow]
theorem ld_good {t : TypeId} {x : Operand} {vx : VX} {b off : Nat} {rw_ sym : Bool} {l : List SV} {s : SV} (ho : o.op = .load t x) (ht : aggT P t = some none) (hx : cX x = some vx) (he : env sl vx = some (.p (.o (.ptr b off))))
    (hrow : rowAt M b = .row rw_ sym l) (hs : nth l off = some s) (hS : SlotsOk ρ n ds sl a) (hR : Rep ρ M w) (hK : K ⟨some (vO s), [], [], [b]⟩) : Good P o a ρ M w nid nw K := by
  obtain ⟨p, hp, hv⟩ := env_is hS hx he
  obtain ⟨q, hq, hr⟩ := hR.rows b (by rw [hrow]; rfl)
  rw [hp] at hq; cases hq
  rw [hrow] at hr
  obtain ⟨v, hv1, hc⟩ := hr.2.1 off s hs
  refine good_read hR (u := v) ?_ hK hv1
  refine run_v (f := Instr.loadAt t (a.eval x)) (by unfold execOp; rw [ho]) ?_
  rw [hv]
  simp [Instr.loadAt, Instr.sureAddr, loadVar, (aggT_none (w := w) ht).1, hc]
theorem ldg_good {t : TypeId} {x : Operand} {vx : VX} {b off : Nat} (ho : o.op = .load t x) (ht : aggT P t = some none) (hx : cX x = some vx) (he : env sl vx = some (.p (.o (.gp b off)))) (hS : SlotsOk ρ n ds sl a) (hR : Rep ρ M w) (hL : Low G ρ M w)
    (h : LookG G b off fun s => K (val1 (vO s))) : Good P o a ρ M w nid nw K := by
  obtain ⟨s, u, hb, hc, hI, hK⟩ := h
  have hv : a.eval x = .pointer (some ⟨b, off, none⟩) := env_is hS hx he
  have hc' : w.cell? ⟨b, off, none⟩ = some u := by
    rw [← hc]; simp only [World.cell?, hL.same b hb]
  have hI' : s.Is ρ u := SV.Is.ext (fun _ _ h => by cases h) hI
  refine good_read hR (u := u) ?_ hK hI'
  refine run_v (f := Instr.loadAt t (a.eval x)) (by unfold execOp; rw [ho]) ?_
  rw [hv]
  simp [Instr.loadAt, Instr.sureAddr, loadVar, (aggT_none (w := w) ht).1, hc']
theorem mki_good {t : TypeId} {x : Operand} {vx : VX} {k : IntKind} (ho : o.op = .makeInterface t x) (hu : P.underlying t = some (.int k)) (hx : cX x = some vx) (hS : SlotsOk ρ n ds sl a) (hR : Rep ρ M w) (h : opW G P false sl M nid (.mki t vx) K) : Good P o a ρ M w nid nw K := by
  simp only [opW] at h
  split at h
  · rename_i k' m he
    have hv : a.eval x = .int k' m := env_is hS hx he
    refine good_read hR (run_v (f := Instr.makeInterface t (a.eval x)) (by unfold execOp; rw [ho]) ?_) h rfl
    rw [hv]; simp [Instr.makeInterface, run_underlying hu]
  · exact h.elim
theorem ldn_good {t : TypeId} {x : Operand} {vx : VX} {b off k : Nat} {rw_ sym : Bool} {l c : List SV} (ho : o.op = .load t x) (ht : aggT P t = some (some k)) (hx : cX x = some vx) (he : env sl vx = some (.p (.o (.ptr b off))))
    (hrow : rowAt M b = .row rw_ sym l) (hs : getN l off k = some c) (hS : SlotsOk ρ n ds sl a) (hR : Rep ρ M w) (hK : K ⟨some (.p (.a c)), [], [], [b]⟩) : Good P o a ρ M w nid nw K := by
  obtain ⟨p, hp, hv⟩ := env_is hS hx he
  obtain ⟨q, hq, hr⟩ := hR.rows b (by rw [hrow]; rfl)
  rw [hp] at hq; cases hq
  rw [hrow] at hr
  obtain ⟨d, hu, hd, hi⟩ := aggT_some ht
  obtain ⟨g1, g2, g3⟩ := getN_spec hs
  have hall : ∀ i s, nth c i = some s → s.Is ρ ((w.cell? ⟨p.blk, p.base + off + i, none⟩).getD undef) ∧ w.cell? ⟨p.blk, p.base + off + i, none⟩ = some ((w.cell? ⟨p.blk, p.base + off + i, none⟩).getD undef) := fun i s h => by
    obtain ⟨v, h1, h2⟩ := hr.2.1 (off + i) s (by rw [← g3 i (by have := nth_lt h; omega)]; exact h)
    rw [← Nat.add_assoc] at h2
    rw [h2]; exact ⟨h1, rfl⟩
  have hL := isL_of_nth (ρ := ρ) c _ (fun i s h => (hall i s h).1)
  refine good_read hR (u := .agg ((List.range (lenS c)).map fun i => (w.cell? ⟨p.blk, p.base + off + i, none⟩).getD undef).toArray) ?_ hK ⟨_, rfl, by simpa using hL⟩
  refine run_v (f := Instr.loadAt t (a.eval x)) (by unfold execOp; rw [ho]) ?_
  rw [hv]
  refine run_loadAt_mid w p.blk (p.base + off) t _ d (fun j v hj => ?_) hu hd (by rw [hi]; simp [g1])
  simp only [List.getElem?_map, Option.map_eq_some_iff] at hj
  obtain ⟨j', hj1, hj2⟩ := hj
  obtain ⟨hlt, rfl⟩ := List.getElem?_eq_some_iff.1 hj1
  simp only [List.length_range] at hlt
  simp only [List.getElem_range] at hj2
  obtain ⟨s, hs'⟩ := nth_some hlt
  rw [(hall j s hs').2, hj2]
theorem st_good {t : TypeId} {x y : Operand} {vx vy : VX} {b off k : Nat} {sym : Bool} {l c : List SV} {v : V} {i : TypeInfo} (ho : o.op = .store t x y) (hi : P.info? t = some i) (hx : cX x = some vx) (hy : cX y = some vy)
    (he : env sl vx = some (.p (.o (.ptr b off)))) (hev : env sl vy = some v) (hrow : rowAt M b = .row true sym l) (hc : cellsOf v = some c) (h1 : lenS c = i.size) (h2 : off + i.size ≤ lenS l) (h3 : sym = true → allFlat c = true)
    (hS : SlotsOk ρ n ds sl a) (hR : Rep ρ M w) (hK : K ⟨none, [(b, .row true sym (setN l off c))], [], [b]⟩) : Good P o a ρ M w nid nw K := by
  obtain ⟨p, hp, hv⟩ := env_is hS hx he
  have hvv := env_is hS hy hev
  have hL : isL ρ c (a.eval y).cells.toList := by
    cases v with
    | t l => cases hc
    | p pv => cases pv with
      | o s =>
        cases hc
        have h1 : s.Is ρ (a.eval y) := hvv
        have h2 := oneCell_of_Is h1
        have : (a.eval y).cells = #[a.eval y] := by
          cases hq : a.eval y <;> rw [hq] at h2 <;> simp_all [Value.cells, Value.oneCell']
        rw [this]
        exact ⟨_, _, rfl, h1, rfl⟩
      | a m =>
        cases hc
        obtain ⟨c, h1, h2⟩ := hvv
        rw [h1]; exact h2
  obtain ⟨q, hq, hr⟩ := hR.rows b (by rw [hrow]; rfl)
  rw [hp] at hq; cases hq
  rw [hrow] at hr
  obtain ⟨hb, hcells, hflat, hrw⟩ := hr
  obtain ⟨hbl, cc, T, lo, hi', hheap, hcs, hz⟩ := hrw rfl
  have hlen := isL_len hL
  obtain ⟨g1, g2⟩ := write_row (sym' := sym) (l2 := setN l off c) (o := off) hR hrow hp hL (by omega) (by rw [lenS_setN]; exact hbl)
    (fun j s hj h4 h5 => by rw [nth_setN _ _ _ _ (by omega), if_pos ⟨h4, h5⟩] at hj; exact hj)
    (fun j s hj h4 => by rw [nth_setN _ _ _ _ (by omega), if_neg (by omega)] at hj; exact hj)
    (fun hs j s hj => by
      rw [nth_setN _ _ _ _ (by omega)] at hj
      split at hj
      · exact allFlat_iff (h3 hs) _ _ hj
      · exact hflat hs _ _ hj)
  have ht : w.there p.blk (p.base + off) (a.eval y).cells.toList.length := there_of hheap hcs hz (by omega)
  refine good_skip (e := ⟨none, [(b, .row true sym (setN l off c))], [], [b]⟩) ?_ hK g1 g2 rfl (fun _ _ => rfl)
  unfold execOp
  rw [ho]
  have hrun := run_storeCells_cells (P := P) p.blk (p.base + off) (a.eval y).cells.toList 0 w (fun j hj => by simpa using (ht j hj).1) (fun j hj => by simpa using (ht j hj).2) (oneCells_of_isL hL)
  have hsz : (a.eval y).cells.size = i.size := by simp only [Array.length_toList] at hlen; omega
  simp only [Nat.add_zero] at hrun
  simp [hv, Instr.storeAt, Instr.sureAddr, storeVar, sizeOf, typeInfo, hi, hsz, hrun]
end Go.Proofs.Ytmdfkggflainbaa.VM
