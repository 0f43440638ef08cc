/- A law's arguments, read with their reach: structs, and slices, of numbers, truths and texts. -/
import Derived.Test.YtmdfkggflainbaaVmR
import Derived.SizedLaws
import Derived.Deep.Slices
namespace Go.Proofs.Ytmdfkggflainbaa.VM
open Go.RowKit Go.ChangeShapes Go.WideShapes
set_option linter.unusedVariables false
set_option linter.unusedSimpArgs false
def okZ : List FK → List SV → Prop
  | [], l => l = []
  | .int k :: ks, l => ∃ n r, l = .int k n :: r ∧ inK k n ∧ okZ ks r
  | .bool :: ks, l => ∃ b r, l = .bool b :: r ∧ okZ ks r
  | .str :: ks, l => ∃ s r, l = .str s :: r ∧ s.size ≤ 140737488351232 ∧ okZ ks r
theorem okZ_append : ∀ {a b : List FK} {l m : List SV}, okZ a l → okZ b m → okZ (a ++ b) (l ++ m)
  | [], b, l, m, h, k => by simp only [okZ] at h; subst h; exact k
  | .int _ :: a, b, l, m, h, k => by obtain ⟨n, r, rfl, h1, h2⟩ := h; exact ⟨n, _, rfl, h1, okZ_append h2 k⟩
  | .bool :: a, b, l, m, h, k => by obtain ⟨n, r, rfl, h2⟩ := h; exact ⟨n, _, rfl, okZ_append h2 k⟩
  | .str :: a, b, l, m, h, k => by obtain ⟨n, r, rfl, h1, h2⟩ := h; exact ⟨n, _, rfl, h1, okZ_append h2 k⟩
theorem okZ_flat : ∀ {a : List FK} {l : List SV}, okZ a l → allFlat l = true
  | [], l, h => by simp only [okZ] at h; subst h; rfl
  | .int _ :: a, l, h => by obtain ⟨n, r, rfl, h1, h2⟩ := h; simp only [allFlat, SV.flat]; exact okZ_flat h2
  | .bool :: a, l, h => by obtain ⟨n, r, rfl, h2⟩ := h; simp only [allFlat, SV.flat]; exact okZ_flat h2
  | .str :: a, l, h => by obtain ⟨n, r, rfl, h1, h2⟩ := h; simp only [allFlat, SV.flat]; exact okZ_flat h2
theorem okZ_len : ∀ {a : List FK} {l : List SV}, okZ a l → lenS l = a.length
  | [], l, h => by simp only [okZ] at h; subst h; rfl
  | .int _ :: a, l, h => by obtain ⟨n, r, rfl, h1, h2⟩ := h; simp [lenS, okZ_len h2]
  | .bool :: a, l, h => by obtain ⟨n, r, rfl, h2⟩ := h; simp [lenS, okZ_len h2]
  | .str :: a, l, h => by obtain ⟨n, r, rfl, h1, h2⟩ := h; simp [lenS, okZ_len h2]
theorem allFlat_append : ∀ {l m : List SV}, allFlat l = true → allFlat m = true → allFlat (l ++ m) = true
  | [], m, _, h => h
  | s :: l, m, h, k => by
    simp only [allFlat] at h
    split at h
    · rename_i hs
      simp only [List.cons_append, allFlat, hs]
      exact allFlat_append h k
    · cases h
section
variable {H : Type} {enc : TypeId × Value → H} {P : Program} {w : World} {base : Nat} {spare : Nat → Bool} {held : Bool}
theorem fields_flatz {fuel : Nat} {g : TypeId → Option (List FK)} {cs : List Value} (hg : ∀ t ks, g t = some ks → ∀ cs x, DataW.trod enc P w base spare held fuel t cs = some x → (∀ n ∈ x.1.weights P t, n ≤ reachBytes) → ∃ l, okZ ks l ∧ ∀ ρ, isL ρ l cs) :
    ∀ (fs : List Field) (i : Nat) (ks : List FK), flatFs P g fs i cs.length = some ks →
    (∀ f ∈ fs, ∃ x, DataW.trod enc P w base spare held fuel f.type ((cs.drop f.offset).take (P.cellsOf f.type)) = some x ∧ ∀ n ∈ x.1.weights P f.type, n ≤ reachBytes) →
    ∃ l, okZ ks l ∧ ∀ ρ, isL ρ l (cs.drop i)
  | [], i, ks, h, _ => by
    simp only [flatFs] at h
    split at h
    · rename_i e; cases h; subst e; exact ⟨[], rfl, fun ρ => by simp [isL]⟩
    · cases h
  | f :: fs, i, ks, h, hf => by
    simp only [flatFs] at h
    split at h
    · rename_i e; subst e
      split at h
      · rename_i a b h1 h2
        cases h
        obtain ⟨x, hx, hxw⟩ := hf f (.head _)
        obtain ⟨l, k1, k2⟩ := hg _ _ h1 _ _ hx hxw
        obtain ⟨m, k3, k4⟩ := fields_flatz hg fs _ b h2 (fun f' hf' => hf f' (.tail _ hf'))
        refine ⟨l ++ m, okZ_append k1 k3, fun ρ => ?_⟩
        have := isLs_append (k2 ρ) (k4 ρ)
        rwa [← List.drop_drop, List.take_append_drop] at this
      · cases h
    · cases h
theorem trod_flatz : ∀ (n : Nat) (t : TypeId) (ks : List FK), flatB P n t = some ks → ∀ (fuel : Nat) (cs : List Value) (x : DataW H × List MemPlace), DataW.trod enc P w base spare held fuel t cs = some x →
    (∀ n ∈ x.1.weights P t, n ≤ reachBytes) → ∃ l, okZ ks l ∧ ∀ ρ, isL ρ l cs
  | 0, t, ks, h => by cases h
  | n + 1, t, ks, h => by
    intro fuel cs x hx hw
    simp only [flatB] at h
    split at h
    · rename_i k hu
      cases h
      obtain ⟨m, rfl, _, hw⟩ := DataW.trod_int hu hx
      exact ⟨[.int k m], ⟨m, [], rfl, inK_of_wf hw, rfl⟩, fun ρ => ⟨_, _, rfl, rfl, rfl⟩⟩
    · rename_i hu
      cases h
      obtain ⟨b, rfl, _⟩ := DataW.trod_bool hu hx
      exact ⟨[.bool b], ⟨b, [], rfl, rfl⟩, fun ρ => ⟨_, _, rfl, rfl, rfl⟩⟩
    · rename_i hu
      cases h
      obtain ⟨s, rfl, rfl, hs⟩ := DataW.trod_string hu hx
      have h1 : s.size ≤ reachBytes := by
        have := hw s.data.toList.length (by simp [DataW.weights])
        simpa using this
      exact ⟨[.str s], ⟨s, [], rfl, h1, rfl⟩, fun ρ => ⟨_, _, rfl, rfl, rfl⟩⟩
    · rename_i fs hu
      obtain ⟨xs, m, rfl, rfl, hl, hlen, hf⟩ := DataW.trod_struct hu hx
      rw [← hl] at h
      exact fields_flatz (fun t ks ht cs x hx hw => trod_flatz n t ks ht m cs x hx hw) fs.toList 0 ks h (fun f hf' => by
        obtain ⟨i, hi, rfl⟩ := List.mem_iff_getElem.1 hf'
        have hi' : i < fs.size := by simpa using hi
        have := hf i fs[i] (by simp [hi'])
        rw [List.getElem?_eq_getElem (by omega)] at this
        refine ⟨_, by simpa using this, fun q hq => hw q ?_⟩
        simp only [DataW.weights, hu]
        exact DataW.weights_mem_each (j := i) (t := fs[i].type) (d := (xs[i]'(by omega)).1) (by simp [hi']) (by rw [List.getElem?_map, List.getElem?_eq_getElem (by omega)]; rfl) q (by simpa using hq))
    · cases h
theorem weights_mem_all {e : TypeId} : ∀ {ds : List (DataW H)} {d : DataW H}, d ∈ ds → ∀ n ∈ d.weights P e, n ∈ DataW.weightsAll P e ds
  | d0 :: ds, d, hd, n, hn => by
    simp only [DataW.weightsAll, List.mem_append]
    cases hd with
    | head => exact .inl hn
    | tail _ hd => exact .inr (weights_mem_all hd n hn)
/-- A struct of flat cells, by value. -/
theorem open_flatz (n : Nat) {r : Reach} {b0 : Nat} {t : TypeId} {fs : Array Field} {v : Value} {d : DataW H} {p : List MemPlace} {ks : List FK} (hs : P.underlying t = some (.struct fs)) (hk : flatB P n t = some ks)
    (hv : Value.okWide P w r b0 t v) (h : DataW.Trod enc P w base spare held t v d p) (hw : ∀ n ∈ d.weights P t, n ≤ reachBytes) : ∃ l, okZ ks l ∧ v = .agg ⟨slVal l⟩ := by
  obtain ⟨cs, rfl, _⟩ := okWide_struct hs hv
  obtain ⟨fuel, hf⟩ := h
  obtain ⟨l, h1, h2⟩ := trod_flatz n t ks hk fuel _ _ hf hw
  refine ⟨l, h1, ?_⟩
  have := (sl_iff (ρ := fun _ => none) (okZ_flat h1)).1 (h2 _)
  simp only [Value.cells] at this
  rw [← this]
theorem addr_add' (b o j : Nat) : Addr.add ⟨b, o, none⟩ j = ⟨b, o + j, none⟩ := by
  by_cases h : j = 0
  · subst h; rfl
  · simp [Addr.add, h]
theorem choose_list {α : Type} {Q : Nat → α → Prop} : ∀ (m : Nat), (∀ i, i < m → ∃ l, Q i l) → ∃ rows : List α, rows.length = m ∧ ∀ i l, rows[i]? = some l → Q i l
  | 0, _ => ⟨[], rfl, fun i l h => by simp at h⟩
  | m + 1, h => by
    obtain ⟨rows, h1, h2⟩ := choose_list m fun i hi => h i (by omega)
    obtain ⟨l, hl⟩ := h m (by omega)
    refine ⟨rows ++ [l], by simp [h1], fun i l' hi => ?_⟩
    rw [List.getElem?_append] at hi
    split at hi
    · exact h2 i l' hi
    · rename_i hlt
      have : i < (rows ++ [l]).length := by
        have := (List.getElem?_eq_some_iff.1 hi).1
        simp only [List.length_append, List.length_cons, List.length_nil] at this ⊢
        omega
      simp only [List.length_append, List.length_cons, List.length_nil] at this
      have e : i - rows.length = 0 := by omega
      rw [e] at hi
      simp only [List.getElem?_cons_zero, Option.some.injEq] at hi
      subst hi
      rw [show i = m by omega]
      exact hl
theorem nth_flatten {sz : Nat} : ∀ {rows : List (List SV)} {i : Nat} {s : SV}, (∀ r ∈ rows, lenS r = sz) → nth rows.flatten i = some s → ∃ q j row, rows[q]? = some row ∧ i = q * sz + j ∧ j < sz ∧ nth row j = some s
  | [], i, s, _, h => by simp [nth] at h
  | row :: rows, i, s, hr, h => by
    rw [List.flatten_cons, nth_append] at h
    have hl := hr row (.head _)
    split at h
    · exact ⟨0, i, row, rfl, by omega, by omega, h⟩
    · obtain ⟨q, j, row', h1, h2, h3, h4⟩ := nth_flatten (fun r hr' => hr r (.tail _ hr')) h
      refine ⟨q + 1, j, row', by simpa using h1, ?_, h3, h4⟩
      rw [Nat.add_mul, Nat.one_mul]; omega
theorem nth_sl : ∀ {l : List SV} {i : Nat} {s : SV}, nth l i = some s → (slVal l)[i]? = some (svVal s)
  | [], _, _, h => by simp [nth] at h
  | x :: l, 0, s, h => by simp only [nth, Option.some.injEq] at h; subst h; rfl
  | x :: l, i + 1, s, h => by simp only [nth] at h; simpa [slVal] using nth_sl h
theorem allFlat_flatten : ∀ {rows : List (List SV)}, (∀ r ∈ rows, allFlat r = true) → allFlat rows.flatten = true
  | [], _ => rfl
  | r :: rows, h => by rw [List.flatten_cons]; exact allFlat_append (h r (.head _)) (allFlat_flatten fun r hr => h r (.tail _ hr))
/-- Where a slice's cells lie. -/
structure Cells (w : World) (blk off : Nat) (l : List SV) : Prop where
  lt : blk < w.heap.size
  flat : allFlat l = true
  cell : ∀ i s, nth l i = some s → w.cell? ⟨blk, off + i, none⟩ = some (svVal s)
/-- A slice of flat elements. -/
theorem open_flats (n : Nat) {r : Reach} {b0 : Nat} {t e : TypeId} {v : Value} {d : DataW H} {p : List MemPlace} {ks : List FK} (ht : P.underlying t = some (.slice e)) (hk : flatB P n e = some ks) (hc : P.cellsOf e = ks.length)
    (hv : Value.okWide P w r b0 t v) (h : DataW.Trod enc P w base spare held t v d p) (hw : ∀ n ∈ d.weights P t, n ≤ reachBytes) :
    v = .slice none 0 0 ∨ ∃ (blk off cap : Nat) (rows : List (List SV)), v = .slice (some ⟨blk, off, none⟩) rows.length cap ∧ rows.length ≤ cap ∧ rows.length * P.bytesOf e ≤ 140737488351232 ∧ (∀ r ∈ rows, okZ ks r) ∧ Cells w blk off rows.flatten := by
  obtain ⟨sa, len, cap, rfl⟩ := okWide_slice ht hv
  obtain ⟨fuel, hf⟩ := h
  simp only [Value.cells] at hf
  rcases Go.Deep.open_slice ht hf with ⟨h0, _⟩ | ⟨a, len', cap', m, n', D, Pl, hcs, hb, hl, hm, hmm, hx, hi⟩
  · simp only [List.cons.injEq, and_true] at h0
    exact .inl h0
  · simp only [List.cons.injEq, and_true, Value.slice.injEq] at hcs
    obtain ⟨rfl, rfl, rfl⟩ := hcs
    right
    have hd : d = .slice ((List.range len).map D) ((List.range (m - len)).map fun j => D (len + j)) := congrArg Prod.fst hx
    subst hd
    have hlm : len ≤ m := by rw [hmm]; split <;> omega
    have hok : a.block < w.heap.size ∧ a.spot = none := by
      simp only [Value.okWide, ht, Cell.okWide] at hv
      simp only [Cell.ok, ht] at hv
      obtain ⟨_, _, _, hs, row, cells, hsh, _⟩ := hv
      refine ⟨?_, hs⟩
      rcases Nat.lt_or_ge a.block w.heap.size with h' | h'
      · exact h'
      · simp [World.shape?, Array.getElem?_eq_none h'] at hsh
    obtain ⟨blk, off, sp⟩ := a
    obtain ⟨hlt, rfl⟩ := hok
    have each : ∀ i, i < len → ∃ l, okZ ks l ∧ ∀ j s, nth l j = some s → w.cell? ⟨blk, off + (i * ks.length + j), none⟩ = some (svVal s) := fun i hil => by
      obtain ⟨cs', hc', hT⟩ := hi i (by omega)
      obtain ⟨l, h1, h2⟩ := trod_flatz n e ks hk n' cs' _ hT (fun q hq => hw q (by
        simp only [DataW.weights, ht]
        exact List.mem_cons_of_mem _ (List.mem_append_left _ (weights_mem_all (List.mem_map.2 ⟨i, List.mem_range.2 hil, rfl⟩) q hq))))
      refine ⟨l, h1, fun j s hs => ?_⟩
      have hv2 := (sl_iff (ρ := fun _ => none) (okZ_flat h1)).1 (h2 _)
      obtain ⟨_, hcl, hat⟩ := World.cells?_some hc'
      have hj : j < ks.length := by have := nth_lt hs; rw [okZ_len h1] at this; exact this
      have h3 := hat j (by rw [hc]; exact hj)
      rw [hv2, nth_sl hs] at h3
      rw [← h3, hc]
      rw [addr_add', addr_add', Nat.add_assoc]
    obtain ⟨rows, hrl, hr⟩ := choose_list len each
    have hall : ∀ r ∈ rows, okZ ks r := fun r hr' => by
      obtain ⟨i, hi'⟩ := List.getElem?_of_mem hr'
      exact (hr i r hi').1
    subst hrl
    refine ⟨blk, off, cap, rows, rfl, hl, ?_, hall, hlt, allFlat_flatten fun r hr' => okZ_flat (hall r hr'), fun i s hs => ?_⟩
    · have := hw _ (by simp only [DataW.weights, ht]; exact .head _)
      simp only [List.length_map, List.length_range] at this
      have h2 : rows.length * P.bytesOf e ≤ (rows.length + (m - rows.length)) * P.bytesOf e := Nat.mul_le_mul_right _ (by omega)
      exact Nat.le_trans h2 this
    · obtain ⟨q, j, row, h1, rfl, h3, h4⟩ := nth_flatten (fun r hr' => okZ_len (hall r hr')) hs
      exact (hr q row h1).2 j s h4
theorem open_strz {t : TypeId} {r : Reach} {b0 : Nat} {v : Value} {d : DataW H} {p : List MemPlace} (ht : P.underlying t = some .string)
    (hv : Value.okWide P w r b0 t v) (h : DataW.Trod enc P w base spare held t v d p) (hw : ∀ n ∈ d.weights P t, n ≤ reachBytes) : ∃ s, v = .string s ∧ s.size ≤ 140737488351232 := by
  obtain ⟨s, rfl⟩ := okWide_string ht hv
  obtain ⟨fuel, hf⟩ := h
  obtain ⟨s', h1, h2, _⟩ := DataW.trod_string ht hf
  have h2 : d = .lit (.string s'.data.toList) := congrArg Prod.fst h2
  subst h2
  have h1 : s = s' := by simpa [Value.cells] using h1
  subst h1
  have := hw s.data.toList.length (by simp [DataW.weights])
  refine ⟨s, rfl, ?_⟩
  rw [Array.length_toList] at this
  exact this
end
theorem weights_at {H : Type} {P : Program} {ts : List TypeId} {ds : List (DataW H)} (h : (DataW.weightsEach P ts ds).all (· ≤ reachBytes) = true) (j : Nat) {t : TypeId} {d : DataW H} (ht : ts[j]? = some t) (hd : ds[j]? = some d) : ∀ n ∈ d.weights P t, n ≤ reachBytes := fun n hn => by
  simpa using List.all_eq_true.1 h n (DataW.weights_mem_each ht hd n hn)
/-- Rows that came in, over which nothing is written. -/
def placesOf : List (Nat × Nat × List SV) → PMap
  | [], _ => none
  | (b, o, l) :: _, 0 => some ⟨b, o, o + lenS l⟩
  | _ :: r, n + 1 => placesOf r n
def rowsOf : List (Nat × Nat × List SV) → List Row
  | [] => []
  | (_, _, l) :: r => .row false true l :: rowsOf r
theorem flat_nth : ∀ {l : List SV} {i : Nat} {s : SV}, allFlat l = true → nth l i = some s → s.flat = true
  | x :: l, 0, s, h, hi => by
    simp only [nth, Option.some.injEq] at hi
    subst hi
    simp only [allFlat] at h
    split at h
    · assumption
    · cases h
  | x :: l, i + 1, s, h, hi => by
    simp only [allFlat] at h
    split at h
    · exact flat_nth h hi
    · cases h
theorem rowsOf_kind : ∀ (L : List (Nat × Nat × List SV)) b, rowAt (rowsOf L) b = .dead ∨ ∃ l, rowAt (rowsOf L) b = .row false true l
  | [], _ => .inl rfl
  | (_, _, l) :: _, 0 => .inr ⟨l, rfl⟩
  | _ :: L, b + 1 => rowsOf_kind L b
theorem rep_rows {w : World} : ∀ {L : List (Nat × Nat × List SV)}, (∀ x ∈ L, Cells w x.1 x.2.1 x.2.2) → Rep (placesOf L) (rowsOf L) w
  | L, h => by
    have at_ : ∀ (L : List (Nat × Nat × List SV)) b, (∀ x ∈ L, Cells w x.1 x.2.1 x.2.2) → (rowAt (rowsOf L) b).rw = false ∧ (∀ p, placesOf L b = some p → b < lenR (rowsOf L)) ∧ ((rowAt (rowsOf L) b).live = true → ∃ p, placesOf L b = some p ∧ RowOk (placesOf L) w p (rowAt (rowsOf L) b)) := by
      intro L
      induction L with
      | nil => intro b _; exact ⟨rfl, fun p hp => (by cases hp), fun hl => (by cases hl)⟩
      | cons x L ih =>
        intro b h
        obtain ⟨k, o, l⟩ := x
        have hx := h _ (.head _)
        cases b with
        | zero =>
          refine ⟨rfl, fun p _ => by simp [rowsOf, lenR], fun _ => ⟨_, rfl, hx.lt, fun i s hs => ⟨_, (sv_iff (flat_nth hx.flat hs)).2 rfl, hx.cell i s hs⟩, fun _ i s hs => flat_nth hx.flat hs, fun e => by cases e⟩⟩
        | succ b =>
          obtain ⟨h1, h2, h3⟩ := ih b fun x hx => h x (.tail _ hx)
          refine ⟨h1, fun p hp => by have := h2 p hp; simp only [rowsOf, lenR]; omega, fun hl => ?_⟩
          obtain ⟨p, hp, hr⟩ := h3 hl
          refine ⟨p, hp, ?_⟩
          simp only [rowsOf, rowAt] at hl ⊢
          rcases rowsOf_kind L b with hrow | ⟨l, hrow⟩
          · rw [hrow]; trivial
          · rw [hrow] at hr h1 ⊢
            obtain ⟨g1, g2, g3, g4⟩ := hr
            refine ⟨g1, fun i s hs => ?_, g3, fun e => by cases e⟩
            have hfl := g3 rfl i s hs
            obtain ⟨v, hv, hcell⟩ := g2 i s hs
            exact ⟨v, (sv_iff hfl).2 ((sv_iff hfl).1 hv), hcell⟩
    exact ⟨fun b p hp => (at_ L b h).2.1 p hp, fun b hl => (at_ L b h).2.2 hl, fun b c p q k _ hb => by rw [(at_ L b h).1] at hb; cases hb⟩
theorem rowsOf_rw : ∀ (L : List (Nat × Nat × List SV)) b, (rowAt (rowsOf L) b).rw = false
  | [], _ => rfl
  | _ :: _, 0 => rfl
  | _ :: L, b + 1 => rowsOf_rw L b
/-- A law, called as the row calls it, over slices that came in. -/
theorem calls_of_rows {G : Ground} {P : Program} {f : FuncId} {vals : List PV} {vs : List Value} {R : V → List Row → Prop} (L : List (Nat × Nat × List SV)) {w : World} (hL : ∀ x ∈ L, Cells w x.1 x.2.1 x.2.2) (h : Can G P f vals (rowsOf L) R) (hR : ∀ v M, R v M → v = vB true) (hv : isPL (placesOf L) vals vs) (hLow : Low G (placesOf L) (rowsOf L) w) :
    Calls P f vs.toArray w fun e w' => e = .returned (.bool true) ∧ Below w.heap.size w w' := by
  refine (h.run _ w vs (rep_rows hL) hLow hv).mono ?_
  rintro e w' ⟨u', v', M', ρ', rfl, hR', hI, _, hE, _⟩
  have := hR _ _ hR'
  subst this
  exact ⟨by rw [bool_is _ _ hI], hE.below (rowsOf_rw L)⟩
theorem slc_is {L : List (Nat × Nat × List SV)} {n b o len cap : Nat} {l : List SV} (h : L[n]? = some (b, o, l)) (hl : len ≤ cap) : (PV.o (.slc n 0 len (.is cap))).Is (placesOf L) (.slice (some ⟨b, o, none⟩) len cap) := by
  have : ∀ (L : List (Nat × Nat × List SV)) n, L[n]? = some (b, o, l) → placesOf L n = some ⟨b, o, o + lenS l⟩ := by
    intro L
    induction L with
    | nil => intro n h; simp at h
    | cons x L ih =>
      intro n h
      cases n with
      | zero => simp only [List.getElem?_cons_zero, Option.some.injEq] at h; subst h; rfl
      | succ n => exact ih n (by simpa using h)
  exact ⟨_, _, _, this L n h, rfl, .inr rfl, hl, rfl⟩
end Go.Proofs.Ytmdfkggflainbaa.VM
