/- The evaluator: operations, more of them. -/
import Derived.Test.YtmdfkggflainbaaVmF
import Derived.Great.BuildSlice
import Derived.Laws.Slices
namespace Go.Proofs.Ytmdfkggflainbaa.VM
open Go.RowKit
set_option linter.unusedVariables false
set_option linter.unusedSimpArgs false
variable {G : Ground} {P : Program} {ds : List Deferred} {eqs : List Nat} {news : FuncId → Nat} {ρ : PMap} {M : List Row} {w : World} {sl : Env} {a : Act} {n nid : Nat} {o : Oper} {nw : Nat} {K : Eff → Prop}
theorem isL_intro : ∀ {l : List SV} {vs : List Value}, vs.length = lenS l → (∀ i s, nth l i = some s → ∃ v, vs[i]? = some v ∧ s.Is ρ v) → isL ρ l vs
  | [], vs, h, _ => by simpa [isL, lenS] using h
  | s :: l, [], h, _ => by simp [lenS] at h
  | s :: l, v :: vs, h, hc => by
    obtain ⟨u, h1, h2⟩ := hc 0 s rfl
    simp only [List.getElem?_cons_zero, Option.some.injEq] at h1
    subst h1
    refine ⟨_, vs, rfl, h2, isL_intro (by simpa [lenS] using h) (fun i s hi => ?_)⟩
    obtain ⟨u, h3, h4⟩ := hc (i + 1) s hi
    exact ⟨u, by simpa using h3, h4⟩
theorem foldl_set (off : Nat) : ∀ (vs : List Value) (k : Nat) (cells : Array Value),
    ((vs.zipIdx k).foldl (fun cs (p : Value × Nat) => cs.setIfInBounds (off + p.2) p.1) cells).size = cells.size ∧
    ∀ i, off + k + vs.length ≤ cells.size → ((vs.zipIdx k).foldl (fun cs (p : Value × Nat) => cs.setIfInBounds (off + p.2) p.1) cells)[i]? = if off + k ≤ i ∧ i < off + k + vs.length then vs[i - (off + k)]? else cells[i]?
  | [], k, cells => by
    refine ⟨rfl, fun i _ => ?_⟩
    rw [if_neg (by simp only [List.length_nil]; omega)]; rfl
  | v :: vs, k, cells => by
    obtain ⟨h1, h2⟩ := foldl_set off vs (k + 1) (cells.setIfInBounds (off + k) v)
    refine ⟨by simpa [List.zipIdx_cons] using h1, fun i hi => ?_⟩
    simp only [List.zipIdx_cons, List.foldl_cons]
    rw [h2 i (by simp only [Array.size_setIfInBounds]; simp only [List.length_cons] at hi; omega)]
    simp only [List.length_cons] at hi ⊢
    by_cases c1 : off + (k + 1) ≤ i ∧ i < off + (k + 1) + vs.length
    · rw [if_pos c1, if_pos (by omega), show i - (off + k) = (i - (off + (k + 1))) + 1 by omega, List.getElem?_cons_succ]
    · rw [if_neg c1]
      by_cases c2 : i = off + k
      · subst c2
        rw [if_pos (by omega)]
        simp [Array.getElem?_setIfInBounds, show off + k < cells.size by omega]
      · rw [if_neg (by omega), Array.getElem?_setIfInBounds_ne (by omega)]
theorem fill_one {zero c : List SV} {cells vs : Array Value} {off : Nat} (hz : isL ρ zero cells.toList) (hv : isL ρ c vs.toList) (h : off + lenS c ≤ lenS zero) :
    isL ρ (setN zero off c) (vs.zipIdx.foldl (fun cs (c, j) => cs.setIfInBounds (off + j) c) cells).toList := by
  have l1 := isL_len hz
  have l2 := isL_len hv
  have e : (vs.zipIdx.foldl (fun cs (c, j) => cs.setIfInBounds (off + j) c) cells) = ((vs.toList.zipIdx 0).foldl (fun cs (p : Value × Nat) => cs.setIfInBounds (off + p.2) p.1) cells) := by
    rw [← Array.foldl_toList, Array.toList_zipIdx]
  rw [e]
  obtain ⟨h1, h2⟩ := foldl_set off vs.toList 0 cells
  refine isL_intro (by rw [lenS_setN, Array.length_toList, h1, ← l1, Array.length_toList]) (fun i s hi => ?_)
  rw [nth_setN _ _ _ _ h] at hi
  simp only [Array.length_toList] at l1 l2
  rw [Array.getElem?_toList, h2 i (by simp only [Array.length_toList]; omega)]
  simp only [Array.length_toList, Nat.add_zero]
  by_cases hc : off ≤ i ∧ i < off + lenS c
  · rw [if_pos hc] at hi
    rw [if_pos (by omega)]
    exact nth_isL hv hi
  · rw [if_neg hc] at hi
    rw [if_neg (by omega), ← Array.getElem?_toList]
    exact nth_isL hz hi
theorem parts_fill (hS : SlotsOk ρ n ds sl a) {place : Nat → Option (Nat × Nat)} {K : List SV → Prop} : ∀ {parts : List (Nat × Operand)} {vps : List (Nat × Nat × VX)} {zero : List SV} {cells : Array Value},
    cParts place parts = some vps → withParts sl zero vps K → isL ρ zero cells.toList →
    ∃ l cells', Instr.fill place cells (parts.map fun p => (p.1, a.eval p.2)) = some cells' ∧ isL ρ l cells'.toList ∧ K l
  | [], vps, zero, cells, hp, hw, hz => by
    cases hp
    simp only [withParts, forceL_eq] at hw
    exact ⟨zero, cells, rfl, hz, hw⟩
  | (i, x) :: parts, vps, zero, cells, hp, hw, hz => by
    simp only [cParts] at hp
    split at hp
    · rename_i off s y r h1 h2 h3
      cases hp
      have l1 := isL_len hz
      simp only [Array.length_toList] at l1
      have fin : ∀ (vs : List SV) , isL ρ vs (a.eval x).cells.toList → lenS vs = s → off + s ≤ lenS zero → withParts sl (setN zero off vs) r K →
          ∃ l cells', Instr.fill place cells (((i, x) :: parts).map fun p => (p.1, a.eval p.2)) = some cells' ∧ isL ρ l cells'.toList ∧ K l := by
        intro vs hvs hs hb hw'
        have l2 := isL_len hvs
        simp only [Array.length_toList] at l2
        obtain ⟨l, cells', g1, g2, g3⟩ := parts_fill hS h3 hw' (fill_one (off := off) hz hvs (by omega))
        refine ⟨l, cells', ?_, g2, g3⟩
        simp only [List.map_cons, Instr.fill, h1]
        rw [if_neg (by simp; omega)]
        exact g1
      simp only [withParts] at hw
      split at hw
      · rename_i s' he
        split at hw
        · rename_i b1 b2
          have hv : s'.Is ρ (a.eval x) := env_is hS h2 he
          have h2' := oneCell_of_Is hv
          have hcells : (a.eval x).cells = #[a.eval x] := by
            cases hq : a.eval x <;> rw [hq] at h2' <;> simp_all [Value.cells, Value.oneCell']
          have b1' := Nat.eq_of_beq_eq_true b1
          have b2' := Nat.le_of_ble_eq_true b2
          exact fin [s'] (by rw [hcells]; exact ⟨_, _, rfl, hv, rfl⟩) (by simp [lenS, b1']) (by omega) hw
        · exact hw.elim
      · rename_i m he
        split at hw
        · rename_i b1 b2
          obtain ⟨c, hc1, hc2⟩ := env_is hS h2 he
          have b1' := Nat.eq_of_beq_eq_true b1
          have b2' := Nat.le_of_ble_eq_true b2
          exact fin m (by rw [hc1]; exact hc2) b1'.symm (by omega) hw
        · exact hw.elim
      · exact hw.elim
    · cases hp
theorem places_run {fs : List Field} (h : fs.all (fun f => (P.info? f.type).isSome) = true) : fs.mapM (fun f => (P.info? f.type).map fun i => (f.offset, i.size)) = some (fs.map fun f => (f.offset, ((P.info? f.type).map (·.size)).getD 0)) := by
  induction fs with
  | nil => rfl
  | cons f fs ih =>
    simp only [List.all_cons, Bool.and_eq_true] at h
    obtain ⟨i, hi⟩ := Option.isSome_iff_exists.1 h.1
    simp [List.mapM_cons, hi, ih h.2]
theorem bld_good {t : TypeId} {parts : Array (Nat × Operand)} {z : List SV} {vps : List (Nat × Nat × VX)} (ho : o.op = .build t parts) (hz : zeroL P t = some z)
    (hp : (∃ fs, P.underlying t = some (.struct fs) ∧ fs.toList.all (fun f => (P.info? f.type).isSome) = true ∧ cParts (placeF P fs) parts.toList = some vps) ∨
      (∃ k e i, P.underlying t = some (.array k e) ∧ P.info? e = some i ∧ cParts (fun k => some (k * i.size, i.size)) parts.toList = some vps))
    (hS : SlotsOk ρ n ds sl a) (hR : Rep ρ M w) (hw : withParts sl z vps fun l => K (val1 (.p (.a l)))) : Good P o a ρ M w nid nw K := by
  obtain ⟨it, zz, hi, hzz, hl⟩ := zeroL_some hz
  have hzL := svsOf_is (ρ := ρ) hl
  have hparts : (parts.map fun (p : Nat × Operand) => (p.1, a.eval p.2)).toList = parts.toList.map fun p => (p.1, a.eval p.2) := by simp
  rcases hp with ⟨fs, hu, hall, hp⟩ | ⟨k, e, i, hu, hie, hp⟩
  · obtain ⟨l, cells', g1, g2, g3⟩ := parts_fill hS hp hw hzL
    refine good_read hR (u := .agg cells') ?_ g3 ⟨_, rfl, g2⟩
    refine run_v (f := Instr.build t (parts.map fun (i, x) => (i, a.eval x))) (by unfold execOp; rw [ho]) (run_build w t _ cells' ?_)
    unfold Program.built
    rw [hi, hu]
    simp only [hzz, places_run hall]
    rw [hparts]
    have : (fun x => (fs.toList.map fun f => (f.offset, ((P.info? f.type).map (·.size)).getD 0)).toArray[x]?) = placeF P fs := by
      funext x
      simp only [placeF, List.getElem?_toArray, List.getElem?_map, Array.getElem?_toList]
      cases hx : fs[x]? with
      | none => rfl
      | some f =>
        have hm : f ∈ fs.toList := by
          have := Array.mem_of_getElem? hx
          simpa using this
        have := List.all_eq_true.1 hall f hm
        obtain ⟨inf, hinf⟩ := Option.isSome_iff_exists.1 this
        simp [hinf]
    rw [this]; exact g1
  · obtain ⟨l, cells', g1, g2, g3⟩ := parts_fill hS hp hw hzL
    refine good_read hR (u := .agg cells') ?_ g3 ⟨_, rfl, g2⟩
    refine run_v (f := Instr.build t (parts.map fun (i, x) => (i, a.eval x))) (by unfold execOp; rw [ho]) (run_build w t _ cells' ?_)
    unfold Program.built
    rw [hi, hu]
    simp only [hzz, hie]
    rw [hparts]
    exact g1
theorem lenS_repeatL (z : List SV) : ∀ n, lenS (repeatL z n) = n * lenS z
  | 0 => by simp [repeatL, lenS]
  | n + 1 => by rw [repeatL, lenS_append, lenS_repeatL z n, Nat.succ_mul]; omega
theorem nth_repeatL (z : List SV) : ∀ (n i : Nat), i < n * lenS z → nth (repeatL z n) i = nth z (i % lenS z)
  | 0, i, h => by simp at h
  | n + 1, i, h => by
    rw [repeatL, nth_append]
    by_cases hc : i < lenS z
    · rw [if_pos hc, Nat.mod_eq_of_lt hc]
    · rw [if_neg hc, nth_repeatL z n _ (by rw [Nat.succ_mul] at h; omega)]
      congr 1
      rw [Nat.mod_eq_sub_mod (by omega : i ≥ lenS z)]
theorem zeros_isL {z : List SV} {c : Array Value} (h : isL ρ z c.toList) (m : Nat) : isL ρ (repeatL z m) ((Array.range (m * lenS z)).map (c[· % c.size]!)).toList := by
  have l1 := isL_len h
  simp only [Array.length_toList] at l1
  refine isL_intro (by simp [lenS_repeatL]) (fun i s hi => ?_)
  have hlt := nth_lt hi
  rw [lenS_repeatL] at hlt
  rw [nth_repeatL _ _ _ hlt] at hi
  obtain ⟨v, h1, h2⟩ := nth_isL h hi
  refine ⟨v, ?_, h2⟩
  have hz : 0 < lenS z := by
    rcases Nat.eq_zero_or_pos (lenS z) with h0 | h0
    · rw [h0] at hlt; simp at hlt
    · exact h0
  have hm : i % lenS z < c.size := by rw [l1]; exact Nat.mod_lt _ hz
  simp only [Array.toList_map, Array.toList_range, List.getElem?_map, List.getElem?_range hlt, Option.map_some, Option.some.injEq]
  rw [l1, getElem!_pos c _ hm]
  rw [Array.getElem?_toList, Array.getElem?_eq_getElem hm] at h1
  exact Option.some.inj h1
theorem bsl_good {t e : TypeId} {k : Nat} {parts : Array (Nat × Operand)} {z : List SV} {i : TypeInfo} {vps : List (Nat × Nat × VX)} (ho : o.op = .buildSlice t k parts) (hu : P.underlying t = some (.slice e)) (hi : P.info? e = some i)
    (hz : zeroL P e = some z) (hlz : lenS z = i.size) (hsm : k * i.size ≤ 16777216) (hp : cParts (fun k => some (k * i.size, i.size)) parts.toList = some vps)
    (hS : SlotsOk ρ n ds sl a) (hR : Rep ρ M w) (hn : ρ nid = none) (hM : nid < lenR M) (hd : rowAt M nid = .dead)
    (hw : withParts sl (repeatL z k) vps fun l => K ⟨some (vO (.slc nid 0 k (.is k))), [], [.row true false l], []⟩) : Good P o a ρ M w nid 1 K := by
  obtain ⟨it, zz, hi', hzz, hl⟩ := zeroL_some hz
  rw [hi] at hi'; cases hi'
  have hzL := zeros_isL (svsOf_is (ρ := ρ) hl) k
  rw [hlz] at hzL
  obtain ⟨l, cells', g1, g2, g3⟩ := parts_fill hS hp hw hzL
  have hC := cells_of_isL g2
  refine good_new hR hn hM hd (u := .slice (some ⟨w.heap.size, 0, none⟩) k k) (w' := w.alloc (.cells cells' e)) ?_ rfl rfl rfl rfl (.inl rfl) g3 hC.1 hC.2 (fun h => by cases h) ⟨_, _, k, upd_same _ _ _, rfl, .inr rfl, Nat.le_refl _, rfl⟩
  refine run_v (f := Instr.buildSlice t k (parts.map fun (i, x) => (i, a.eval x))) (by unfold execOp; rw [ho]) ?_
  have hparts : (parts.map fun (p : Nat × Operand) => (p.1, a.eval p.2)).toList = parts.toList.map fun p => (p.1, a.eval p.2) := by simp
  have hsm' : ¬ 16777216 < k * i.size := by omega
  by_cases h0 : k * i.size = 0
  · have g1' : Instr.fill (fun k => some (k * i.size, i.size)) #[] (parts.toList.map fun p => (p.1, a.eval p.2)) = some cells' := by
      rw [h0] at g1; simpa [Array.range_zero'] using g1
    simp only [Instr.buildSlice, Sem.run_bind, run_underlying hu, Result.andThen_ok, sizeOf, typeInfo, run_program, hi, Sem.run_pure, h0]
    simp [g1', newRow, Array.range_zero']
  · have g1' : Instr.fill (fun k => some (k * i.size, i.size)) ((Array.range (k * i.size)).map (zz.cells[· % zz.cells.size]!)) ((parts.map fun (p : Nat × Operand) => (p.1, a.eval p.2)).toList) = some cells' := by
      rw [hparts]; exact g1
    exact run_buildSlice w t e k _ cells' i zz hu hi hzz (by simpa using hsm') h0 g1'
end Go.Proofs.Ytmdfkggflainbaa.VM
