/- The evaluator: slices, fields, elements, append. -/
import Derived.Test.YtmdfkggflainbaaVmH
namespace Go.Proofs.Ytmdfkggflainbaa.VM
open Go.RowKit
set_option linter.unusedVariables false
set_option linter.unusedSimpArgs false
variable {G : Ground} {P : Program} {ds : List Deferred} {eqs : List Nat} {news : FuncId → Nat} {ρ : PMap} {M : List Row} {w : World} {sl : Env} {a : Act} {n nid : Nat} {o : Oper} {nw : Nat} {K : Eff → Prop}
theorem intOfX_is (hS : SlotsOk ρ n ds sl a) {x : Option Operand} {vx : Option VX} {d : Int} {K : Int → Prop} (hx : cXo x = some vx) (h : intOfX sl vx d K) :
    ∃ m, K m ∧ ((x = none ∧ m = d) ∨ ∃ y k, x = some y ∧ a.eval y = .int k m) := by
  cases x with
  | none => cases hx; exact ⟨d, h, .inl ⟨rfl, rfl⟩⟩
  | some y =>
    simp only [cXo] at hx
    split at hx
    · rename_i z hz
      cases hx
      simp only [intOfX] at h
      split at h
      · rename_i k m he
        exact ⟨m, h, .inr ⟨y, k, rfl, env_is hS hz he⟩⟩
      · exact h.elim
    · cases hx
theorem run_bounds {isS : Bool} {len cap : Nat} {lo hi : Option Value} {l h : Int} (hl : (lo = none ∧ l = 0) ∨ ∃ k, lo = some (.int k l)) (hh : (hi = none ∧ h = len) ∨ ∃ k, hi = some (.int k h))
    (h0 : 0 ≤ l) (h1 : l ≤ h) (h2 : h ≤ cap) : (Instr.sliceBounds isS len cap lo hi none).run P w = .ok (l.toNat, h.toNat, cap) w := by
  have eh : (h.toNat : Int) = h := Int.toNat_of_nonneg (by omega)
  have hp : 0 ≤ h := by omega
  rcases hl with ⟨rfl, hl⟩ | ⟨k, rfl⟩ <;> rcases hh with ⟨rfl, hh⟩ | ⟨k', rfl⟩
  · subst hl; subst hh; simp [Instr.sliceBounds]
  · subst hl; simp [Instr.sliceBounds, run_sliceBound, hp, h2]
  · subst hh; simp [Instr.sliceBounds, run_sliceBound, h0, h1]
  · simp [Instr.sliceBounds, run_sliceBound, h0, h1, h2, eh, hp]
theorem sls_good {t : TypeId} {x : Operand} {lo hi : Option Operand} {vx : VX} {vl vh : Option VX} (ho : o.op = .slice t x lo hi none) (hu : P.underlying t = some .string) (hx : cX x = some vx) (hl : cXo lo = some vl) (hh : cXo hi = some vh)
    (hS : SlotsOk ρ n ds sl a) (hR : Rep ρ M w) (h : opW G P false sl M nid (.sls vx vl vh) K) : Good P o a ρ M w nid nw K := by
  simp only [opW] at h
  split at h
  · rename_i s he
    have hA : a.eval x = .string s := env_is hS hx he
    obtain ⟨l, h, hl'⟩ := intOfX_is hS hl h
    obtain ⟨m, ⟨⟨h0, h1, h2⟩, hK⟩, hh'⟩ := intOfX_is hS hh h
    refine good_read hR (u := .string (s.extract l.toNat m.toNat)) (run_v (f := Instr.sliceAt t (a.eval x) (lo.map a.eval) (hi.map a.eval) none) (by unfold execOp; rw [ho]; rfl) ?_) hK rfl
    have hb := run_bounds (P := P) (w := w) (isS := false) (len := s.size) (cap := s.size) (lo := lo.map a.eval) (hi := hi.map a.eval) (l := l) (h := m)
      (by rcases hl' with ⟨rfl, rfl⟩ | ⟨y, k, rfl, hy⟩ <;> simp_all) (by rcases hh' with ⟨rfl, rfl⟩ | ⟨y, k, rfl, hy⟩ <;> simp_all) h0 h1 h2
    rw [hA]
    simp [Instr.sliceAt, run_underlying hu, Instr.slice, hb]
  · exact h.elim
theorem sll_good {t e : TypeId} {x : Operand} {lo hi : Option Operand} {vx : VX} {vl vh : Option VX} {i : TypeInfo} (ho : o.op = .slice t x lo hi none) (hu : P.underlying t = some (.slice e)) (hi' : P.info? e = some i) (hx : cX x = some vx) (hl : cXo lo = some vl) (hh : cXo hi = some vh)
    (hS : SlotsOk ρ n ds sl a) (hR : Rep ρ M w) (h : opW G P false sl M nid (.sll i.size vx vl vh) K) : Good P o a ρ M w nid nw K := by
  simp only [opW] at h
  have hsz : (sizeOf e).run P w = .ok i.size w := by simp [sizeOf, typeInfo, hi']
  split at h
  · rename_i b off k c he
    obtain ⟨p, ad, cap, hp, hv, had, hlc, hcap⟩ := env_is hS hx he
    obtain ⟨l, h, hl'⟩ := intOfX_is hS hl h
    obtain ⟨m, ⟨⟨h0, h1, h2⟩, hK⟩, hh'⟩ := intOfX_is hS hh h
    have hb := run_bounds (P := P) (w := w) (isS := true) (len := k) (cap := cap) (lo := lo.map a.eval) (hi := hi.map a.eval) (l := l) (h := m)
      (by rcases hl' with ⟨rfl, rfl⟩ | ⟨y, k, rfl, hy⟩ <;> simp_all) (by rcases hh' with ⟨rfl, rfl⟩ | ⟨y, k, rfl, hy⟩ <;> simp_all) h0 h1 (by omega)
    have hrun : (execOp a.eval o).run P w = .ok (.value (.slice (some (if cap = l.toNat then ad else ad.add (l.toNat * i.size))) (m.toNat - l.toNat) (cap - l.toNat))) w := by
      refine run_v (f := Instr.sliceAt t (a.eval x) (lo.map a.eval) (hi.map a.eval) none) (by unfold execOp; rw [ho]; rfl) ?_
      rw [hv]
      simp only [Instr.sliceAt, Sem.run_bind, run_underlying hu, Result.andThen_ok, Instr.slice, hb, hsz, Sem.run_pure]
      by_cases hc : cap = l.toNat
      · simp [hc]
      · simp [hc]
    have hadd : cap - l.toNat = 0 ∨ (if cap = l.toNat then ad else ad.add (l.toNat * i.size)) = ⟨p.blk, p.base + (off + l.toNat * i.size), none⟩ := by
      by_cases hc : cap ≤ l.toNat
      · exact .inl (by omega)
      · rcases had with h' | h'
        · omega
        · right; rw [if_neg (by omega), h', Addr.add_mid, Nat.add_assoc]
    cases c with
    | is q =>
      have hq : cap = q := hcap
      exact good_read hR hrun hK ⟨p, _, _, hp, rfl, hadd, by omega, by show cap - l.toNat = q - l.toNat; rw [hq]⟩
    | upto z =>
      obtain ⟨hz, hK⟩ := hK
      subst hz
      have hq : p.base + off + cap * i.size ≤ p.fin := hcap
      refine good_read hR hrun hK ⟨p, _, _, hp, rfl, hadd, by omega, ?_⟩
      show p.base + (off + l.toNat * i.size) + (cap - l.toNat) * i.size ≤ p.fin
      have : l.toNat * i.size + (cap - l.toNat) * i.size = cap * i.size := by rw [← Nat.add_mul]; congr 1; omega
      omega
  · rename_i he
    have hA : a.eval x = .slice none 0 0 := env_is hS hx he
    obtain ⟨l, h, hl'⟩ := intOfX_is hS hl h
    obtain ⟨m, ⟨⟨h0, h1⟩, hK⟩, hh'⟩ := intOfX_is hS hh h
    subst h0; subst h1
    have hb := run_bounds (P := P) (w := w) (isS := true) (len := 0) (cap := 0) (lo := lo.map a.eval) (hi := hi.map a.eval) (l := 0) (h := 0)
      (by rcases hl' with ⟨rfl, _⟩ | ⟨y, k, rfl, hy⟩ <;> simp_all) (by rcases hh' with ⟨rfl, _⟩ | ⟨y, k, rfl, hy⟩ <;> simp_all) (by omega) (by omega) (by omega)
    refine good_read hR (u := .slice none 0 0) (run_v (f := Instr.sliceAt t (a.eval x) (lo.map a.eval) (hi.map a.eval) none) (by unfold execOp; rw [ho]; rfl) ?_) hK rfl
    rw [hA]
    simp [Instr.sliceAt, run_underlying hu, Instr.slice, hb, hsz]
  · exact h.elim
theorem sla_good {t e : TypeId} {q : Nat} {x : Operand} {lo hi : Option Operand} {vx : VX} {vl vh : Option VX} {i : TypeInfo} (ho : o.op = .slice t x lo hi none) (hu : P.underlying t = some (.array q e)) (hi' : P.info? e = some i) (hx : cX x = some vx) (hl : cXo lo = some vl) (hh : cXo hi = some vh)
    (hS : SlotsOk ρ n ds sl a) (hR : Rep ρ M w) (h : opW G P false sl M nid (.sla q i.size vx vl vh) K) : Good P o a ρ M w nid nw K := by
  simp only [opW] at h
  have hsz : (sizeOf e).run P w = .ok i.size w := by simp [sizeOf, typeInfo, hi']
  split at h
  · rename_i b off he
    obtain ⟨p, hp, hv⟩ := env_is hS hx he
    obtain ⟨l, h, hl'⟩ := intOfX_is hS hl h
    obtain ⟨m, ⟨⟨h0, h1, h2⟩, hK⟩, hh'⟩ := intOfX_is hS hh h
    have hb := run_bounds (P := P) (w := w) (isS := false) (len := q) (cap := q) (lo := lo.map a.eval) (hi := hi.map a.eval) (l := l) (h := m)
      (by rcases hl' with ⟨rfl, rfl⟩ | ⟨y, k, rfl, hy⟩ <;> simp_all) (by rcases hh' with ⟨rfl, rfl⟩ | ⟨y, k, rfl, hy⟩ <;> simp_all) h0 h1 h2
    refine good_read hR (u := .slice (some (if q = l.toNat then ⟨p.blk, p.base + off, none⟩ else (⟨p.blk, p.base + off, none⟩ : Addr).add (l.toNat * i.size))) (m.toNat - l.toNat) (q - l.toNat))
      (run_v (f := Instr.sliceAt t (a.eval x) (lo.map a.eval) (hi.map a.eval) none) (by unfold execOp; rw [ho]; rfl) ?_) hK ⟨p, _, _, hp, rfl, ?_, by omega, rfl⟩
    · rw [hv]
      simp only [Instr.sliceAt, Sem.run_bind, run_underlying hu, Result.andThen_ok, Instr.sureAddr, Sem.run_pure, hb, hsz]
    · by_cases hc : q ≤ l.toNat
      · exact .inl (by omega)
      · right; rw [if_neg (by omega), Addr.add_mid, Nat.add_assoc]
  · exact h.elim
theorem fad_good {t : TypeId} {k : Nat} {x : Operand} {vx : VX} {fs : Array Field} {f : Field} {i : TypeInfo} {b off : Nat} (ho : o.op = .fieldAddr t x k) (hu : P.underlying t = some (.struct fs)) (hf : fs[k]? = some f) (hi : P.info? f.type = some i) (hi0 : i.size ≠ 0)
    (hx : cX x = some vx) (he : env sl vx = some (.p (.o (.ptr b off)))) (hS : SlotsOk ρ n ds sl a) (hR : Rep ρ M w) (hK : K (val1 (vO (.ptr b (off + f.offset))))) : Good P o a ρ M w nid nw K := by
  obtain ⟨p, hp, hv⟩ := env_is hS hx he
  refine good_read hR (run_v (f := Instr.fieldAt t (a.eval x) k) (by unfold execOp; rw [ho]) ?_) hK ⟨p, hp, rfl⟩
  rw [hv]
  simp only [Instr.fieldAt, Sem.run_bind, run_underlying hu, Result.andThen_ok, hf, Instr.sureAddr, Sem.run_pure, fieldPlace, sizeOf, typeInfo, run_program, hi]
  rw [if_neg hi0]
  simp [Addr.add_mid, Nat.add_assoc]
theorem part_none {t : TypeId} {c : Array Value} {l : List SV} {s : SV} {k : Nat} (ht : aggT P t = some none) (hc : isL ρ l c.toList) (hs : nth l k = some s) : ∃ v, (part t c k).run P w = .ok v w ∧ s.Is ρ v := by
  obtain ⟨v, h1, h2⟩ := nth_isL hc hs
  refine ⟨v, ?_, h2⟩
  rw [Array.getElem?_toList] at h1
  simp [part, (aggT_none (w := w) ht).1, h1]
theorem part_some {t : TypeId} {c : Array Value} {l m : List SV} {k z : Nat} (ht : aggT P t = some (some z)) (hc : isL ρ l c.toList) (hs : getN l k z = some m) : (part t c k).run P w = .ok (.agg (c.extract k (k + z))) w ∧ isL ρ m (c.extract k (k + z)).toList := by
  obtain ⟨d, hu, hd, hi⟩ := aggT_some ht
  obtain ⟨g1, g2, g3⟩ := getN_spec hs
  have hlen := isL_len hc
  simp only [Array.length_toList] at hlen
  constructor
  · have hagg : (isAgg t).run P w = .ok true w := by
      simp only [isAgg, Sem.run_bind, run_underlying hu, Result.andThen_ok]
      cases d <;> simp_all [TypeDesc.isRow]
    obtain ⟨i, hi1, hi2⟩ := Option.map_eq_some_iff.1 hi
    simp [part, hagg, sizeOf, typeInfo, hi1, hi2]
  · refine isL_intro ?_ (fun i s hi' => ?_)
    · rw [g1, Array.length_toList, Array.size_extract]
      rcases Nat.eq_zero_or_pos z with h0 | h0
      · omega
      · have := g2 h0; omega
    · have hlt := nth_lt hi'
      rw [g3 i (by omega)] at hi'
      obtain ⟨v, h1, h2⟩ := nth_isL hc hi'
      refine ⟨v, ?_, h2⟩
      have := g2 (by omega)
      rw [Array.getElem?_toList] at h1 ⊢
      rw [Array.getElem?_extract, if_pos (by omega)]
      exact h1
theorem fld_good {t : TypeId} {k : Nat} {x : Operand} {vx : VX} {fs : Array Field} {f : Field} {z : Option Nat} (ho : o.op = .field t x k) (hu : P.underlying t = some (.struct fs)) (hf : fs[k]? = some f) (hz : aggT P f.type = some z)
    (hx : cX x = some vx) (hS : SlotsOk ρ n ds sl a) (hR : Rep ρ M w) (h : opW G P false sl M nid (.fld f.offset z vx) K) : Good P o a ρ M w nid nw K := by
  cases z with
  | none =>
    simp only [opW] at h
    split at h
    · rename_i l he
      obtain ⟨c, hc, hL⟩ := env_is hS hx he
      obtain ⟨s, hs, hK⟩ := h
      rw [SV.force_eq] at hK
      obtain ⟨v, h1, h2⟩ := part_none (w := w) hz hL hs
      refine good_read hR (run_v (f := Instr.field t (a.eval x) k) (by unfold execOp; rw [ho]) ?_) hK h2
      rw [hc]
      simp [Instr.field, run_underlying hu, hf, asAgg, h1]
    · exact h.elim
  | some z =>
    simp only [opW] at h
    split at h
    · rename_i l he
      obtain ⟨c, hc, hL⟩ := env_is hS hx he
      obtain ⟨m, hs, hK⟩ := h
      rw [forceL_eq] at hK
      obtain ⟨h1, h2⟩ := part_some (w := w) hz hL hs
      refine good_read hR (run_v (f := Instr.field t (a.eval x) k) (by unfold execOp; rw [ho]) ?_) hK ⟨_, rfl, h2⟩
      rw [hc]
      simp [Instr.field, run_underlying hu, hf, asAgg, h1]
    · exact h.elim
theorem iad_good {t e : TypeId} {x y : Operand} {vx vy : VX} {i : TypeInfo} (ho : o.op = .indexAddr t x y) (hu : P.underlying t = some (.slice e)) (hi : P.info? e = some i) (hx : cX x = some vx) (hy : cX y = some vy)
    (hS : SlotsOk ρ n ds sl a) (hR : Rep ρ M w) (h : opW G P false sl M nid (.iad i.size vx vy) K) : Good P o a ρ M w nid nw K := by
  simp only [opW] at h
  split at h
  · rename_i b off k c he
    split at h
    · rename_i q m he'
      obtain ⟨⟨h0, h1⟩, hK⟩ := h
      obtain ⟨p, ad, cap, hp, hv, had, hlc, hcap⟩ := env_is hS hx he
      have hB : a.eval y = .int q m := env_is hS hy he'
      rcases had with h' | h'
      · omega
      · refine good_read hR (run_v (f := Instr.indexAt t (a.eval x) (a.eval y)) (by unfold execOp; rw [ho]) ?_) hK ⟨p, hp, rfl⟩
        rw [hv, hB, h']
        simp only [Instr.indexAt, asIntOf, Sem.run_bind, Sem.run_pure, Result.andThen_ok, run_underlying hu]
        simp only [Sem.run_ite, if_pos (show 0 ≤ m ∧ m < (k : Int) from ⟨h0, h1⟩)]
        simp [sizeOf, typeInfo, hi, Addr.add_mid, Nat.add_assoc]
    · exact h.elim
  · exact h.elim
theorem iaa_good {t e : TypeId} {q : Nat} {x y : Operand} {vx vy : VX} {i : TypeInfo} (ho : o.op = .indexAddr t x y) (hu : P.underlying t = some (.array q e)) (hi : P.info? e = some i) (hx : cX x = some vx) (hy : cX y = some vy)
    (hS : SlotsOk ρ n ds sl a) (hR : Rep ρ M w) (h : opW G P false sl M nid (.iaa q i.size vx vy) K) : Good P o a ρ M w nid nw K := by
  simp only [opW] at h
  split at h
  · rename_i b off he
    split at h
    · rename_i kk m he'
      obtain ⟨⟨h0, h1⟩, hK⟩ := h
      obtain ⟨p, hp, hv⟩ := env_is hS hx he
      have hB : a.eval y = .int kk m := env_is hS hy he'
      refine good_read hR (run_v (f := Instr.indexAt t (a.eval x) (a.eval y)) (by unfold execOp; rw [ho]) ?_) hK ⟨p, hp, rfl⟩
      rw [hv, hB]
      simp only [Instr.indexAt, asIntOf, Sem.run_bind, Sem.run_pure, Result.andThen_ok, run_underlying hu, Instr.sureAddr]
      simp only [Sem.run_ite, if_pos (show 0 ≤ m ∧ m < (q : Int) from ⟨h0, h1⟩)]
      simp [sizeOf, typeInfo, hi, Addr.add_mid, Nat.add_assoc]
    · exact h.elim
  · rename_i b off he
    split at h
    · rename_i kk m he'
      obtain ⟨⟨h0, h1⟩, hK⟩ := h
      have hv : a.eval x = .pointer (some ⟨b, off, none⟩) := env_is hS hx he
      have hB : a.eval y = .int kk m := env_is hS hy he'
      refine good_read hR (u := .pointer (some ⟨b, off + m.toNat * i.size, none⟩)) (run_v (f := Instr.indexAt t (a.eval x) (a.eval y)) (by unfold execOp; rw [ho]) ?_) hK rfl
      rw [hv, hB]
      simp only [Instr.indexAt, asIntOf, Sem.run_bind, Sem.run_pure, Result.andThen_ok, run_underlying hu, Instr.sureAddr]
      simp only [Sem.run_ite, if_pos (show 0 ≤ m ∧ m < (q : Int) from ⟨h0, h1⟩)]
      simp [sizeOf, typeInfo, hi, Addr.add_mid, Nat.add_assoc]
    · exact h.elim
  · exact h.elim
theorem ixs_good {t : TypeId} {x y : Operand} {vx vy : VX} (ho : o.op = .index t x y) (hu : P.underlying t = some .string) (hx : cX x = some vx) (hy : cX y = some vy)
    (hS : SlotsOk ρ n ds sl a) (hR : Rep ρ M w) (h : opW G P false sl M nid (.ixs vx vy) K) : Good P o a ρ M w nid nw K := by
  simp only [opW] at h
  split at h
  · rename_i s he
    split at h
    · rename_i q m he'
      obtain ⟨⟨h0, h1⟩, hK⟩ := h
      have hA : a.eval x = .string s := env_is hS hx he
      have hB : a.eval y = .int q m := env_is hS hy he'
      have hlt : m.toNat < s.size := by omega
      refine good_read hR (run_v (f := Instr.index t (a.eval x) (a.eval y)) (by unfold execOp; rw [ho]) ?_) hK rfl
      rw [hA, hB]
      have hg : s[m.toNat]? = some s[m.toNat] := getElem?_pos s _ hlt
      have hd : s.data.toList[m.toNat]? = some s[m.toNat] := by
        rw [Array.getElem?_toList, Array.getElem?_eq_getElem (by exact hlt)]; rfl
      simp only [Instr.index, asIntOf, Sem.run_bind, Sem.run_pure, Result.andThen_ok, run_underlying hu]
      rw [if_pos h0, hg]
      simp [bAt, hd]
    · exact h.elim
  · exact h.elim
theorem ixa_good {t e : TypeId} {q : Nat} {x y : Operand} {vx vy : VX} {i : TypeInfo} {z : Option Nat} (ho : o.op = .index t x y) (hu : P.underlying t = some (.array q e)) (hi : P.info? e = some i) (hz : aggT P e = some z) (hx : cX x = some vx) (hy : cX y = some vy)
    (hS : SlotsOk ρ n ds sl a) (hR : Rep ρ M w) (h : opW G P false sl M nid (.ixa q i.size z vx vy) K) : Good P o a ρ M w nid nw K := by
  cases z with
  | none =>
    simp only [opW] at h
    split at h
    · rename_i l he
      split at h
      · rename_i kk m he'
        obtain ⟨⟨h0, h1⟩, s, hs, hK⟩ := h
        rw [SV.force_eq] at hK
        obtain ⟨c, hc, hL⟩ := env_is hS hx he
        have hB : a.eval y = .int kk m := env_is hS hy he'
        obtain ⟨v, g1, g2⟩ := part_none (w := w) hz hL hs
        refine good_read hR (run_v (f := Instr.index t (a.eval x) (a.eval y)) (by unfold execOp; rw [ho]) ?_) hK g2
        rw [hc, hB]
        simp only [Instr.index, asIntOf, Sem.run_bind, Sem.run_pure, Result.andThen_ok, run_underlying hu]
        simp only [Sem.run_ite, if_pos (show 0 ≤ m ∧ m < (q : Int) from ⟨h0, h1⟩)]
        simp [sizeOf, typeInfo, hi, g1]
      · exact h.elim
    · exact h.elim
  | some z =>
    simp only [opW] at h
    split at h
    · rename_i l he
      split at h
      · rename_i kk m he'
        obtain ⟨⟨h0, h1⟩, s, hs, hK⟩ := h
        rw [forceL_eq] at hK
        obtain ⟨c, hc, hL⟩ := env_is hS hx he
        have hB : a.eval y = .int kk m := env_is hS hy he'
        obtain ⟨g1, g2⟩ := part_some (w := w) hz hL hs
        refine good_read hR (run_v (f := Instr.index t (a.eval x) (a.eval y)) (by unfold execOp; rw [ho]) ?_) hK ⟨_, rfl, g2⟩
        rw [hc, hB]
        simp only [Instr.index, asIntOf, Sem.run_bind, Sem.run_pure, Result.andThen_ok, run_underlying hu]
        simp only [Sem.run_ite, if_pos (show 0 ≤ m ∧ m < (q : Int) from ⟨h0, h1⟩)]
        simp [sizeOf, typeInfo, hi, g1]
      · exact h.elim
    · exact h.elim
theorem nth_isPL : ∀ {l : List PV} {vs : List Value} {i : Nat} {s : PV}, isPL ρ l vs → l[i]? = some s → ∃ v, vs[i]? = some v ∧ s.Is ρ v
  | [], _, _, _, _, h => by simp at h
  | x :: l, _, 0, s, ⟨v, r, h1, h2, h3⟩, h => by
    simp only [List.getElem?_cons_zero, Option.some.injEq] at h
    subst h; subst h1
    exact ⟨v, rfl, h2⟩
  | x :: l, _, i + 1, s, ⟨v, r, h1, h2, h3⟩, h => by
    subst h1
    obtain ⟨u, hu, hs⟩ := nth_isPL h3 (by simpa using h)
    exact ⟨u, by simpa using hu, hs⟩
theorem ext_good {k : Nat} {x : Operand} {vx : VX} (ho : o.op = .extract x k) (hx : cX x = some vx) (hS : SlotsOk ρ n ds sl a) (hR : Rep ρ M w) (h : opW G P false sl M nid (.ext k vx) K) : Good P o a ρ M w nid nw K := by
  simp only [opW] at h
  split at h
  · rename_i l he
    split at h
    · rename_i y hy
      obtain ⟨c, hc, hL⟩ := env_is hS hx he
      obtain ⟨v, h1, h2⟩ := nth_isPL hL hy
      rw [Array.getElem?_toList] at h1
      refine good_read hR (run_v (f := Instr.extract (a.eval x) k) (by unfold execOp; rw [ho]) ?_) h h2
      rw [hc]
      simp [Instr.extract, h1]
    · exact h.elim
  · exact h.elim
theorem mkf_good {f : FuncId} {first caps : Array Operand} {vcs : List VX} (ho : o.op = .makeFunc (.func f) first caps) (h1 : first.toList = []) (hx : cXs caps.toList = some vcs) (hS : SlotsOk ρ n ds sl a) (hR : Rep ρ M w) (h : opW G P false sl M nid (.mkf f vcs) K) : Good P o a ρ M w nid nw K := by
  simp only [opW] at h
  split at h
  · rename_i cs hcs
    have hC := envCaps_is hS hx hcs
    refine good_read hR (u := .func (.func f) #[] (caps.map a.eval)) (run_v (f := Instr.makeFunc (.func f) (first.map a.eval) (caps.map a.eval)) (by unfold execOp; rw [ho]) ?_) h ⟨_, rfl, by simpa using hC⟩
    have : first = #[] := by cases first; simp_all
    simp [Instr.makeFunc, this]
  · exact h.elim
theorem nilc_good {x : Operand} {vx : VX} (ho : o.op = .nilCheck x) (hx : cX x = some vx) (hS : SlotsOk ρ n ds sl a) (hR : Rep ρ M w) (h : opW G P false sl M nid (.nilc vx) K) : Good P o a ρ M w nid nw K := by
  simp only [opW] at h
  split at h
  · rename_i b off he
    have hA := env_is hS hx he
    obtain ⟨p, hp, hv⟩ := hA
    refine good_read hR (u := a.eval x) ?_ h ⟨p, hp, hv⟩
    unfold execOp; rw [ho]; simp [hv]
  · rename_i f c he
    have hA := env_is hS hx he
    obtain ⟨vs, hv, hc⟩ := hA
    refine good_read hR (u := a.eval x) ?_ h ⟨vs, hv, hc⟩
    unfold execOp; rw [ho]; simp [hv]
  · exact h.elim
theorem pick_good {c x y : Operand} {vc vx vy : VX} (ho : o.op = .pick c x y) (hc : cX c = some vc) (hx : cX x = some vx) (hy : cX y = some vy) (hS : SlotsOk ρ n ds sl a) (hR : Rep ρ M w) (h : opW G P false sl M nid (.pick vc vx vy) K) : Good P o a ρ M w nid nw K := by
  simp only [opW] at h
  split at h
  · rename_i b he
    have hA : a.eval c = .bool b := env_is hS hc he
    obtain ⟨h1, h2⟩ := h
    cases b with
    | true =>
      have h := h1 rfl
      split at h
      · rename_i v hv
        exact good_read hR (u := a.eval x) (by unfold execOp; rw [ho]; simp [hA, asBool]) h (env_is hS hx hv)
      · exact h.elim
    | false =>
      have h := h2 rfl
      split at h
      · rename_i v hv
        exact good_read hR (u := a.eval y) (by unfold execOp; rw [ho]; simp [hA, asBool]) h (env_is hS hy hv)
      · exact h.elim
  · exact h.elim
end Go.Proofs.Ytmdfkggflainbaa.VM
