/- The evaluator: a region in the order of the text. -/
import Derived.Test.YtmdfkggflainbaaVmM
namespace Go.Proofs.Ytmdfkggflainbaa.VM
open Go.RowKit
set_option linter.unusedVariables false
set_option linter.unusedSimpArgs false
variable {G : Ground} {P : Program} {ds : List Deferred} {eqs : List Nat} {news : FuncId → Nat} {ρ : PMap} {M : List Row} {w : World} {sl : Slots} {a : Act} {n nid : Nat} {o : Oper} {nw : Nat}
/-- The blocks that loops over functions have laid for deferred calls: none was deferred. -/
def Marks (ρ : PMap) (M : List Row) (w : World) (B : Nat) : List Deferred → Prop
  | [] => True
  | d :: ds => (∃ r, d = { target := .collected r, args := #[] } ∧ B ≤ r ∧ r < w.heap.size ∧ w.heap[r]? = some (.deferred (some [])) ∧ ¬ Owned ρ M w r ∧ ∀ d' ∈ ds, d' ≠ d) ∧ Marks ρ M w B ds
theorem Marks.on {ρ ρ' : PMap} {M M' : List Row} {w w' : World} {B : Nat} (hs : w.heap.size ≤ w'.heap.size) (hf : ∀ k, k < w.heap.size → ¬ Owned ρ M w k → w'.heap[k]? = w.heap[k]?) (ho : ∀ k, k < w.heap.size → Owned ρ' M' w' k → Owned ρ M w k) :
    ∀ {ds : List Deferred}, Marks ρ M w B ds → Marks ρ' M' w' B ds
  | [], _ => trivial
  | d :: ds, ⟨⟨r, h1, h2, h3, h4, h5, h6⟩, h⟩ => ⟨⟨r, h1, h2, Nat.lt_of_lt_of_le h3 hs, by rw [hf r h3 h5]; exact h4, fun hk => h5 (ho r h3 hk), h6⟩, Marks.on hs hf ho h⟩
theorem Marks.ev {ρ ρ' : PMap} {M M' : List Row} {w w' : World} {B : Nat} {ds : List Deferred} (h : Marks ρ M w B ds) (hE : Ev ρ M w ρ' M' w') : Marks ρ' M' w' B ds :=
  h.on hE.size hE.frame fun k hk ho => (hE.owned k ho).resolve_right (by omega)
structure Hist (G : Ground) (ρ0 : PMap) (M0 : List Row) (w0 : World) (ds : List Deferred) (ρ : PMap) (M : List Row) (w : World) : Prop where
  rep : Rep ρ M w
  low : Low G ρ M w
  marks : Marks ρ M w w0.heap.size ds
  ev : Ev ρ0 M0 w0 ρ M w
  same : ∀ b, b < lenR M0 → ρ b = ρ0 b
  len : lenR M0 ≤ lenR M
variable {ρ0 : PMap} {M0 : List Row} {w0 : World}
theorem dead_of_none (h : Rep ρ M w) {i : Nat} (hi : ρ i = none) : rowAt M i = .dead := by
  cases hr : rowAt M i with
  | dead => rfl
  | _ =>
    obtain ⟨p, hp, _⟩ := h.rows i (by rw [hr]; rfl)
    rw [hi] at hp; cases hp
theorem lenR_app (M : List Row) (e : Eff) (nid : Nat) : lenR (app M e nid) = lenR M := lenR_setRows _ _
theorem Hist.step {e : Eff} {ρ' : PMap} {w' : World} (h : Hist G ρ0 M0 w0 ds ρ M w) (hR : Rep ρ' (app M e nid) w') (hE : Ev ρ M w ρ' (app M e nid) w') (hf : ∀ i, (i < nid ∨ nid + nw ≤ i) → ρ' i = ρ i) (hn : lenR M0 ≤ nid) :
    Hist G ρ0 M0 w0 ds ρ' (app M e nid) w' :=
  ⟨hR, h.low.ev hE, h.marks.ev hE, h.ev.trans hE, fun b hb => by rw [hf b (.inl (by omega)), h.same b hb], by rw [lenR_app]; exact h.len⟩
theorem Hist.drew (h : Hist G ρ0 M0 w0 ds ρ M w) (k : Nat) : Hist G ρ0 M0 w0 ds ρ M { w with drawn := k } := ⟨h.rep.draws k, h.low.ev (.draws (.refl _ _ _) h.rep k), h.marks.ev (.draws (.refl _ _ _) h.rep k), h.ev.draws h.rep k, h.same, h.len⟩
theorem memW_eq (M : List Row) (nid : Nat) (e : Eff) (K : List Row → Prop) : memW M nid e K = K (app M e nid) := by
  unfold memW
  split
  · rename_i h1 h2; simp [app, h1, h2, numbered, setRows]
  · rw [forceM_eq]
/-- The slots behind an operation. -/
def putS (sl : Slots) : Option Nat → Option V → Slots
  | none, _ => sl
  | some d, some v => (d, v) :: sl
  | some d, none => (d, .t []) :: sl
theorem putW_eq (sl : Slots) (d : Option Nat) (v : Option V) (K : Slots → Prop) : putW sl d v K = K (putS sl d v) := by
  cases d <;> cases v <;> rfl
theorem stepW_eq (d : Bool) (dst : Option Nat) (sl : Slots) (M : List Row) (ft : List (List Nat × List Nat)) (nid : Nat) (e : Eff) (K : Slots → List Row → List (List Nat × List Nat) → Prop) :
    stepW d dst sl M ft nid e K = K (putS sl dst e.val) (app M e nid) (if d then snoc ft (footOf e nid) else ft) := by
  unfold stepW
  rw [memW_eq, putW_eq]
  cases d <;> rfl
theorem look_cons (k : Nat) (v : V) (sl : Slots) (t : Nat) : look ((k, v) :: sl) t = if k = t then some v else look sl t := by
  rw [look]
  split
  · rename_i h; rw [if_pos (Nat.eq_of_beq_eq_true h)]
  · rename_i h; rw [if_neg]; intro e; rw [e, Nat.beq_refl] at h; cases h
theorem SlotsOk.put {dst : Option Nat} {v : Option V} {u : Value} (h : SlotsOk ρ n ds (look sl) a) (hv : ValIs ρ v u) (hd : ∀ d, dst = some d → d < n) : SlotsOk ρ n ds (look (putS sl dst v)) (a.put dst u) := by
  cases dst with
  | none => exact h
  | some d =>
    have hdn := hd d rfl
    have key : ∀ x : V, x.Is ρ u → SlotsOk ρ n ds (look ((d, x) :: sl)) (a.put (some d) u) := fun x hx => by
      refine ⟨by simp only [Act.put, Array.size_setIfInBounds]; exact h.size, h.defers, fun t y hy => ?_⟩
      rw [look_cons] at hy
      by_cases e : d = t
      · subst e
        rw [if_pos rfl] at hy; cases hy
        exact ⟨u, by simp only [Act.put]; rw [Array.getElem?_setIfInBounds, if_pos rfl, if_pos (by rw [h.size]; exact hdn)], hx⟩
      · rw [if_neg e] at hy
        obtain ⟨u', h1, h2⟩ := h.ok t y hy
        exact ⟨u', by simp only [Act.put]; rw [Array.getElem?_setIfInBounds_ne e]; exact h1, h2⟩
    cases v with
    | some x => exact key x hv
    | none => exact key (.t []) (by rw [show u = undef from hv]; exact ⟨#[], rfl, rfl⟩)
theorem SlotsOk.mono {ρ' : PMap} {L : Env} (h : SlotsOk ρ n ds L a) (hx : Ext ρ ρ') : SlotsOk ρ' n ds L a := ⟨h.size, h.defers, fun t v hv => by
  obtain ⟨u, h1, h2⟩ := h.ok t v hv
  exact ⟨u, h1, h2.ext hx⟩⟩
theorem SlotsOk.sub {L L' : Env} (h : SlotsOk ρ n ds L a) (hl : ∀ t v, L' t = some v → L t = some v) : SlotsOk ρ n ds L' a := ⟨h.size, h.defers, fun t v hv => h.ok t v (hl t v hv)⟩
theorem SlotsOk.known {g : Nat} {b : Bool} {v : V} (h : SlotsOk ρ n ds (look sl) a) (hg : look sl g = some (vB b)) (hv : v = vB b) : SlotsOk ρ n ds (look ((g, v) :: sl)) a := by
  refine h.sub fun t x hx => ?_
  rw [look_cons] at hx
  by_cases e : g = t
  · subst e; rw [if_pos rfl] at hx; cases hx; rw [hg, hv]
  · rw [if_neg e] at hx; exact hx
/-- How an operation of a region is written out. -/
def oneOp (P : Program) (eqs : List Nat) (news : FuncId → Nat) (n : Nat) (all : Array Oper) (o : Oper) (off : Nat) (v : VOper) : Prop :=
  cOp P eqs news o.op = some v.op ∧ v.dst = o.dst ∧ v.off = off ∧ (∀ d, o.dst = some d → d < n) ∧
  ((o.guard = none ∧ v.guard = none) ∨ ∃ j want g d, o.guard = some (j, want) ∧ all[j]? = some g ∧ g.dst = some d ∧ v.guard = some (d, want))
theorem cOps_cons {all : Array Oper} {os : List Oper} {off : Nat} {vos : List VOper} {tot : Nat} (h : cOps P eqs news n all (o :: os) off = some (vos, tot)) :
    ∃ v r, vos = v :: r ∧ oneOp P eqs news n all o off v ∧ cOps P eqs news n all os (off + newsOf v.op) = some (r, tot) := by
  simp only [cOps] at h
  split at h
  · rename_i v g hv hg hd
    split at h
    · rename_i r tot' hr
      cases h
      refine ⟨_, r, rfl, ⟨hv, rfl, rfl, fun d hd' => ?_, ?_⟩, hr⟩
      · rw [hd'] at hd; exact Nat.le_of_ble_eq_true hd
      · split at hg
        · rename_i hgu; cases hg; exact .inl ⟨hgu, rfl⟩
        · rename_i j want hgu
          split at hg
          · rename_i g' hall
            split at hg
            · rename_i d hgd
              split at hg
              · cases hg; exact .inr ⟨j, want, g', d, hgu, hall, hgd, rfl⟩
              · cases hg
            · cases hg
          · cases hg
    · cases h
  · cases h
theorem cOps_tot {all : Array Oper} : ∀ {os : List Oper} {off : Nat} {vos : List VOper} {tot : Nat}, cOps P eqs news n all os off = some (vos, tot) → off ≤ tot
  | [], off, vos, tot, h => by simp only [cOps, Option.some.injEq, Prod.mk.injEq] at h; omega
  | o :: os, off, vos, tot, h => by
    obtain ⟨v, r, _, _, h'⟩ := cOps_cons h
    have := cOps_tot h'; omega
/-- Is the operation wanted? -/
theorem wanted_none {all : Array Oper} (h : o.guard = none) : Region.wanted o (yielded all a.tmps) = true := by simp [Region.wanted, h]
theorem wanted_some {all : Array Oper} {j : Nat} {want : Bool} {g : Oper} {d : Nat} {u : Value} (h : o.guard = some (j, want)) (hj : all[j]? = some g) (hd : g.dst = some d) (hu : a.tmps[d]? = some u) :
    Region.wanted o (yielded all a.tmps) = (match u with | .bool b => b == want | _ => false) := by
  simp only [Region.wanted, h, yielded, hj, hd, Option.bind_some, hu]
  cases u <;> simp
/-- The region goes on behind an operation. -/
theorem ops_cons {r : Option Nat} {all : Array Oper} {i : Nat} {rest : List Nat} {Q : Exit → Act → World → Prop} (ho : all[i]? = some o)
    (hy : Region.wanted o (yielded all a.tmps) = true → o.wpIn (fz r) 0 P a w (wpOpsIn (fz r) 0 P all Q rest) Q) (hn : Region.wanted o (yielded all a.tmps) = false → wpOpsIn (fz r) 0 P all Q rest (a.put o.dst undef) w) : wpOpsIn (fz r) 0 P all Q (i :: rest) a w := by
  simp only [wpOpsIn, ho]
  split
  · rename_i h; exact hy h
  · rename_i h; exact ⟨fun _ _ => trivial, hn (by simpa using h)⟩
theorem no_defer {P : Program} {eqs : List Nat} {news : FuncId → Nat} {op : Op} {v : VOp} (h : cOp P eqs news op = some v) : ∀ c, op ≠ .defer c := fun c e => by rw [e] at h; cases h
theorem app_nil (M : List Row) (v : Option V) (ft : List Nat) (nid : Nat) : app M ⟨v, [], [], ft⟩ nid = M := rfl
theorem region_text (hk : Known P eqs) {r : Option Nat} {all : Array Oper} {base : Nat} {Q : Exit → Act → World → Prop} {K : Slots → List Row → List (List Nat × List Nat) → Prop} (hbase : lenR M0 ≤ base)
    (hQ : ∀ sl M ft ρ a w, K sl M ft → Hist G ρ0 M0 w0 ds ρ M w → SlotsOk ρ n ds (look sl) a → Q .normal a w) :
    ∀ (os : List Oper) (i off : Nat) (vos : List VOper) (tot : Nat) (sl : Slots) (M : List Row) (ft : List (List Nat × List Nat)) (ρ : PMap) (a : Act) (w : World), all.toList.drop i = os → cOps P eqs news n all os off = some (vos, tot) →
      opsW G P false base vos sl M ft K → Hist G ρ0 M0 w0 ds ρ M w → SlotsOk ρ n ds (look sl) a → base + tot ≤ lenR M → (∀ k, base + off ≤ k → ρ k = none) → wpOpsIn (fz r) 0 P all Q (List.range' i os.length) a w
  | [], i, off, vos, tot, sl, M, ft, ρ, a, w, hd, hc, hW, hH, hS, hl, hres => by
    cases hc
    exact hQ sl M ft ρ a w hW hH hS
  | o :: os, i, off, vos, tot, sl, M, ft, ρ, a, w, hd, hc, hW, hH, hS, hl, hres => by
    obtain ⟨v, vr, rfl, hone, hc'⟩ := cOps_cons hc
    obtain ⟨h1, h2, h3, h4, h5⟩ := hone
    have htot := cOps_tot hc'
    have hoi : all[i]? = some o := by
      have : (all.toList.drop i)[0]? = some o := by rw [hd]; rfl
      simpa using this
    have hd' : all.toList.drop (i + 1) = os := by
      have : (all.toList.drop i).drop 1 = os := by rw [hd]; rfl
      rw [List.drop_drop] at this; exact this
    have ih := region_text (r := r) (all := all) hk hbase hQ os (i + 1) (off + newsOf v.op) vr tot
    rw [List.length_cons, List.range'_succ]
    -- the operation is carried out
    have go : ∀ (sl' : Slots), SlotsOk ρ n ds (look sl') a → (forceN (base + v.off) fun nid => opW G P false (look sl') M nid v.op fun e => stepW false v.dst sl' M ft nid e fun sl M ft => opsW G P false base vr sl M ft K) →
        o.wpIn (fz r) 0 P a w (wpOpsIn (fz r) 0 P all Q (List.range' (i + 1) os.length)) Q := fun sl' hS' hW' => by
      rw [forceN_eq, h3] at hW'
      refine wpIn_of_wpX r (no_defer h1) (op_good hk h1 hW' hS' hH.rep hH.low ⟨by omega, fun k hk1 hk2 => ⟨hres k hk1, dead_of_none hH.rep (hres k hk1)⟩⟩ _ Q ?_)
      intro e ρ' w' u hK hR hE hv hf
      rw [stepW_eq, h2] at hK
      refine ih _ _ _ ρ' _ w' hd' hc' hK (hH.step hR hE hf (by omega)) ((hS'.mono hE.ext).put hv h4) (by rw [lenR_app]; exact hl) (fun k hk' => ?_)
      rw [hf k (.inr (by omega))]; exact hres k (by omega)
    have skip : ∀ (sl' : Slots), SlotsOk ρ n ds (look sl') a → (stepW false v.dst sl' M ft 0 ⟨none, [], [], []⟩ fun sl M ft => opsW G P false base vr sl M ft K) → wpOpsIn (fz r) 0 P all Q (List.range' (i + 1) os.length) (a.put o.dst undef) w := fun sl' hS' hW' => by
      rw [stepW_eq, h2] at hW'
      exact ih _ _ _ ρ _ w hd' hc' hW' hH (hS'.put (v := none) (u := undef) rfl h4) hl (fun k hk' => hres k (by omega))
    rcases h5 with ⟨hg, hvg⟩ | ⟨j, want, g, d, hg, hj, hgd, hvg⟩
    · simp only [opsW, hvg] at hW
      exact ops_cons hoi (fun _ => go sl hS hW) (fun h => by rw [wanted_none hg] at h; cases h)
    · simp only [opsW, hvg] at hW
      split at hW
      · rename_i b hb
        obtain ⟨u, hu, hI⟩ := hS.ok d _ hb
        obtain rfl : u = .bool b := hI
        have hw := wanted_some hg hj hgd hu
        have hw' : Region.wanted o (yielded all a.tmps) = (b == want) := hw
        obtain ⟨hyes, hno⟩ := hW
        cases b with
        | true =>
          have hW := hyes rfl
          have hS' := hS.known (v := vB true) hb rfl
          cases want with
          | true => exact ops_cons hoi (fun _ => go _ hS' hW) (fun h => by rw [hw'] at h; cases h)
          | false => exact ops_cons hoi (fun h => by rw [hw'] at h; cases h) (fun _ => skip _ hS' hW)
        | false =>
          have hW := hno rfl
          have hS' := hS.known (v := vB false) hb rfl
          cases want with
          | true => exact ops_cons hoi (fun h => by rw [hw'] at h; cases h) (fun _ => skip _ hS' hW)
          | false => exact ops_cons hoi (fun _ => go _ hS' hW) (fun h => by rw [hw'] at h; cases h)
      · rename_i hb
        obtain ⟨u, hu, c, hI1, hI2⟩ := hS.ok d _ hb
        subst hI1
        have hw := wanted_some hg hj hgd hu
        have hw' : Region.wanted o (yielded all a.tmps) = false := hw
        exact ops_cons hoi (fun h => by rw [hw'] at h; cases h) (fun _ => skip _ hS hW)
      · exact hW.elim
end Go.Proofs.Ytmdfkggflainbaa.VM
