/- The evaluator: append, make, equality of structs, builtins. -/
import Derived.Test.YtmdfkggflainbaaVmI
import Derived.Deep.AppendSrc
import Derived.Deep.Upon
namespace Go.Proofs.Ytmdfkggflainbaa.VM
open Go.RowKit
set_option linter.unusedVariables false
set_option linter.unusedSimpArgs false
variable {G : Ground} {P : Program} {ds : List Deferred} {eqs : List Nat} {news : FuncId → Nat} {ρ : PMap} {M : List Row} {w : World} {sl : Env} {a : Act} {n nid : Nat} {o : Oper} {nw : Nat} {K : Eff → Prop}
theorem cells_vals {b off k : Nat} {rw_ sym : Bool} {l c : List SV} {p : Place} (hR : Rep ρ M w) (hp : ρ b = some p) (hrow : rowAt M b = .row rw_ sym l) (hs : getN l off k = some c) :
    ∃ vs, isL ρ c vs ∧ vs.length = k ∧ ∀ j u, vs[j]? = some u → w.cell? ⟨p.blk, p.base + off + j, none⟩ = some u := by
  obtain ⟨q, hq, hr⟩ := hR.rows b (by rw [hrow]; rfl)
  rw [hp] at hq; cases hq
  rw [hrow] at hr
  obtain ⟨g1, g2, g3⟩ := getN_spec hs
  have hall : ∀ i s, nth c i = some s → s.Is ρ ((w.cell? ⟨p.blk, p.base + off + i, none⟩).getD undef) ∧ w.cell? ⟨p.blk, p.base + off + i, none⟩ = some ((w.cell? ⟨p.blk, p.base + off + i, none⟩).getD undef) := fun i s h => by
    obtain ⟨v, h1, h2⟩ := hr.2.1 (off + i) s (by rw [← g3 i (by have := nth_lt h; omega)]; exact h)
    rw [← Nat.add_assoc] at h2
    rw [h2]; exact ⟨h1, rfl⟩
  refine ⟨_, isL_of_nth (ρ := ρ) c _ (fun i s h => (hall i s h).1), by simp [g1], fun j u hj => ?_⟩
  simp only [List.getElem?_map, Option.map_eq_some_iff] at hj
  obtain ⟨j', hj1, hj2⟩ := hj
  obtain ⟨hlt, rfl⟩ := List.getElem?_eq_some_iff.1 hj1
  simp only [List.length_range] at hlt
  simp only [List.getElem_range] at hj2
  obtain ⟨s, hs'⟩ := nth_some hlt
  rw [(hall j s hs').2, hj2]
theorem setRow_setRow : ∀ (M : List Row) (b : Nat) (r s : Row), setRow (setRow M b r) b s = setRow M b s
  | [], _, _, _ => rfl
  | _ :: _, 0, _, _ => rfl
  | _ :: M, b + 1, r, s => by simp only [setRow]; rw [setRow_setRow M b r s]
theorem isL_append : ∀ {l m : List SV} {vs us : List Value}, isL ρ l vs → isL ρ m us → isL ρ (l ++ m) (vs ++ us)
  | [], m, vs, us, h, h' => by simp only [isL] at h; subst h; exact h'
  | s :: l, m, _, us, ⟨v, r, h1, h2, h3⟩, h' => by subst h1; exact ⟨v, r ++ us, rfl, h2, isL_append h3 h'⟩
theorem takeN_all : ∀ (l : List SV), takeN l (lenS l) = some l
  | [] => rfl
  | x :: l => by simp only [lenS, takeN, takeN_all l]
theorem run_app {f : Sem Value} {c : Call} {u : Value} {w' : World} (ho : o.op = .call c) (hc : c.callee = .builtin .append) (hf : (Builtin.append_ c.argTypes o.type (c.args.map a.eval)).run P w = .ok u w') :
    (execOp a.eval o).run P w = .ok (.value u) w' := by
  unfold execOp; rw [ho]
  simp only [resolve, hc, Sem.run_bind, Sem.run_pure, Result.andThen_ok, invoke, builtin]
  simp [hf]
theorem growth_fits {n n2 cap bytes : Nat} (h : cap < n + n2) (h1 : (n + n2) * bytes ≤ 140737488355328) (hb : 1 ≤ bytes) : ((n + n2 : Nat) : Int) ≤ 9223372036854775807 ∧ Builtin.nextslicecap (n + n2) cap * bytes ≤ 281474976710656 := by
  refine ⟨?_, growslice_fits h h1⟩
  have : n + n2 ≤ (n + n2) * bytes := Nat.le_mul_of_pos_right _ hb
  omega
theorem size_zeroCells (z : Array Value) (n : Nat) : (Builtin.zeroCells z n).size = n * z.size := by simp [Builtin.zeroCells]
/-- A grown row. -/
theorem grown_good {ρ0 : PMap} {M0 : List Row} {t e ty : TypeId} {i : TypeInfo} {z : Value} {news1 : List Value} {n cap n2 : Nat} {olds newv : List Value} {l : List SV} {sym : Bool} {wr : List (Nat × Row)} {ft : List Nat}
    (hrun : (execOp a.eval o).run P w = .ok (.value (.slice (some ⟨w.heap.size, 0, none⟩) (n + n2) (grownCap w (n + n2) cap e))) (w.drew.alloc (.cells ((olds ++ newv).toArray ++ Builtin.zeroCells z.cells (grownCap w (n + n2) cap e - (n + n2))) e)))
    (hz : z.cells.size = i.size) (hlen : (olds ++ newv).length = (n + n2) * i.size) (hL : isL ρ l (olds ++ newv)) (hf : sym = true → ∀ j s, nth l j = some s → s.flat = true)
    (hR : Rep ρ (setRows M wr) w) (hE : Ev ρ M w ρ (setRows M wr) w) (hn : ρ nid = none) (hM : nid < lenR (setRows M wr)) (hd : rowAt (setRows M wr) nid = .dead)
    (happ : app M ⟨some (vO (.slc nid 0 (n + n2) (.upto i.size))), wr, [.row true sym l], ft⟩ nid = setRow (setRows M wr) nid (.row true sym l))
    (hK : K ⟨some (vO (.slc nid 0 (n + n2) (.upto i.size))), wr, [.row true sym l], ft⟩) : Good P o a ρ M w nid 1 K := by
  have hcap : n + n2 ≤ grownCap w (n + n2) cap e := by simp only [grownCap, Question.cut]; omega
  have hl := isL_len hL
  have hsz : ((olds ++ newv).toArray ++ Builtin.zeroCells z.cells (grownCap w (n + n2) cap e - (n + n2))).size = grownCap w (n + n2) cap e * i.size := by
    rw [Array.size_append, size_zeroCells, hz, List.size_toArray, hlen, ← Nat.add_mul]; congr 1; omega
  obtain ⟨g1, g2⟩ := new_row (w' := w.drew.alloc (.cells ((olds ++ newv).toArray ++ Builtin.zeroCells z.cells (grownCap w (n + n2) cap e - (n + n2))) e)) (lo := 0) (hi := 0) (sym := sym) (l := l) hR hn hM rfl rfl rfl rfl (.inl rfl)
    (by rw [hsz, ← hl, hlen]; exact Nat.mul_le_mul_right _ hcap)
    (fun j s hj => by
      obtain ⟨v, h1, h2⟩ := nth_isL hL hj
      refine ⟨v, h2, ?_⟩
      have hlt : j < (olds ++ newv).length := (List.getElem?_eq_some_iff.1 h1).1
      rw [Array.getElem?_append_left (by simpa using hlt)]
      simpa using h1) hf hd
  refine good_run (e := ⟨some (vO (.slc nid 0 (n + n2) (.upto i.size))), wr, [.row true sym l], ft⟩) hrun hK (by rw [happ]; exact g1) (by rw [happ]; exact hE.trans g2) ⟨_, _, _, upd_same _ _ _, rfl, .inr rfl, hcap, ?_⟩ (fresh_of nid _)
  refine Nat.le_trans (Nat.le_of_eq ?_) (Nat.le_of_eq hsz.symm)
  show 0 + 0 + grownCap w (n + n2) cap e * i.size = _
  omega
theorem app_good {c : Call} {t e : TypeId} {x y : Operand} {vx vy : VX} {i : TypeInfo} {z : List SV} (ho : o.op = .call c) (hcb : c.callee = .builtin .append) (hca : c.args.toList = [x, y]) (hct : c.argTypes.toList = [t, t])
    (hu : P.underlying t = some (.slice e)) (hi : P.info? e = some i) (hz : zeroL P e = some z) (hlz : lenS z = i.size) (hby : 1 ≤ i.bytes) (hx : cX x = some vx) (hy : cX y = some vy)
    (hS : SlotsOk ρ n ds sl a) (hR : Rep ρ M w) (hn : ρ nid = none) (hM : nid < lenR M) (hd : rowAt M nid = .dead) (h : opW G P false sl M nid (.app i.size i.bytes vx vy) K) : Good P o a ρ M w nid 1 K := by
  obtain ⟨i', zz, hi', hzz, hzl⟩ := zeroL_some hz
  rw [hi] at hi'; cases hi'
  have hzs : zz.cells.size = i.size := by
    have := isL_len (svsOf_is (ρ := ρ) hzl)
    simp only [Array.length_toList] at this; omega
  have hargs : c.args.map a.eval = #[a.eval x, a.eval y] := by
    have : c.args = #[x, y] := by cases hc : c.args; simp_all
    rw [this]; simp
  have htys : c.argTypes = #[t, t] := by cases hc : c.argTypes; simp_all
  have run {u : Value} {w' : World} (hf : (Builtin.append_ #[t, t] o.type #[a.eval x, a.eval y]).run P w = .ok u w') : (execOp a.eval o).run P w = .ok (.value u) w' :=
    run_app (f := pure undef) ho hcb (by rw [hargs, htys]; exact hf)
  simp only [opW] at h
  split at h
  · rename_i b2 o2 n2 c2' he2
    split at h
    · rename_i rw2 sym2 l2 hrow2
      obtain ⟨c2, hc2, h⟩ := h
      obtain ⟨p2, ad2, cap2, hp2, hv2, had2, hlc2, _⟩ := env_is hS hy he2
      obtain ⟨newv, hL2, hlen2, hcell2⟩ := cells_vals hR hp2 hrow2 hc2
      have hr2 : RowOk ρ w p2 (rowAt M b2) := by
        obtain ⟨q, hq, hr⟩ := hR.rows b2 (by rw [hrow2]; rfl)
        rw [hp2] at hq; cases hq; exact hr
      rw [hrow2] at hr2
      have hflat2 : sym2 = true → ∀ j s, nth c2 j = some s → s.flat = true := fun hs j s hj => by
        obtain ⟨g1, g2, g3⟩ := getN_spec hc2
        exact hr2.2.2.1 hs (o2 + j) s (by rw [← g3 j (by have := nth_lt hj; omega)]; exact hj)
      have hflat2' : (sym2 || allFlat c2) = true → ∀ j s, nth c2 j = some s → s.flat = true := fun hs j s hj => by
        rw [Bool.or_eq_true] at hs
        rcases hs with hs | hs
        · exact hflat2 hs j s hj
        · exact allFlat_iff hs _ _ hj
      have hlenc2 : lenS c2 = n2 * i.size := (getN_spec hc2).1
      have hsrc : Src P i.size t (a.eval y) n2 newv w := by
        rw [hv2]
        refine Src.ofSlice w hu ad2 n2 cap2 newv hlen2 (fun j u hj => ?_) (oneCells_of_isL hL2)
        rcases had2 with h0 | h0
        · have : j < newv.length := (List.getElem?_eq_some_iff.1 hj).1
          have : n2 = 0 := by omega
          subst this
          rw [Nat.zero_mul] at hlen2; omega
        · rw [h0, Addr.add_mid]; exact hcell2 j u hj
      split at h
      · rename_i he
        obtain ⟨⟨h0, h1⟩, hK⟩ := h
        have hA : a.eval x = .slice none 0 0 := env_is hS hx he
        have hfit := growth_fits (n := 0) (n2 := n2) (cap := 0) (bytes := i.bytes) (by omega) (by simpa using h1) hby
        have hrun := run_append_grow_src (P := P) w t t o.type e i zz hu hi hzz none 0 0 [] (run_firstCells_none w.drew i.size 0 0 0) (a.eval y) n2 newv hsrc (by omega) hfit.1 hfit.2
        refine grown_good (ρ0 := ρ) (M0 := M) (t := t) (ty := t) (news1 := []) (n := 0) (n2 := n2) (cap := 0) (olds := []) (newv := newv) (z := zz) (e := e) (i := i) (wr := []) (l := c2) (sym := (sym2 || allFlat c2)) (ft := [b2]) (run (by rw [hA]; exact hrun)) hzs (by simp [hlen2]) hL2 hflat2' hR (Ev.refl _ _ _) hn hM hd rfl (by simpa using hK)
      · rename_i b off k cc he
        obtain ⟨p, ad, cap, hp, hv, had, hlc, hcap⟩ := env_is hS hx he
        split at h
        · rename_i rw1 sym l hrow
          have hr1 : RowOk ρ w p (rowAt M b) := by
            obtain ⟨q, hq, hr⟩ := hR.rows b (by rw [hrow]; rfl)
            rw [hp] at hq; cases hq; exact hr
          rw [hrow] at hr1
          obtain ⟨hb, hcells, hflat, hrw⟩ := hr1
          cases cc with
          | is m =>
            have hcm : cap = m := hcap
            obtain ⟨hmem, hyes, hno⟩ := h
            by_cases hfitm : k + n2 ≤ m
            · obtain ⟨⟨hrw1, hbound, hsf⟩, hK⟩ := hyes (by simpa using hfitm)
              subst hrw1
              obtain ⟨hbl, c, T, lo, hi2, hheap, hcs, hz'⟩ := hrw rfl
              obtain ⟨g1, g2⟩ := write_row (sym' := sym) (l2 := setN l (off + k * i.size) c2) (o := off + k * i.size) hR hrow hp hL2 (by omega) (by rw [lenS_setN]; exact hbl)
                (fun j s hj h4 h5 => by rw [nth_setN _ _ _ _ (by omega), if_pos ⟨h4, h5⟩] at hj; exact hj)
                (fun j s hj h4 => by rw [nth_setN _ _ _ _ (by omega), if_neg (by omega)] at hj; exact hj)
                (fun hs j s hj => by
                  rw [nth_setN _ _ _ _ (by omega)] at hj
                  split at hj
                  · exact allFlat_iff (hsf hs) _ _ hj
                  · exact hflat hs _ _ hj)
              have hrun : (Builtin.append_ #[t, t] o.type #[a.eval x, a.eval y]).run P w = .ok (.slice (some ad) (k + n2) cap) (w.setCells p.blk (p.base + (off + k * i.size)) newv) := by
                rw [hv]
                rcases had with h0 | h0
                · have e0 : n2 = 0 := by omega
                  subst e0
                  have : newv = [] := List.eq_nil_of_length_eq_zero (by rw [hlen2, Nat.zero_mul])
                  subst this
                  have := run_append_nothing (P := P) w t t o.type e i hu hi (some ad) k cap hlc (a.eval y) hsrc
                  rw [this]; rfl
                · have ht : w.there p.blk (p.base + off + k * i.size) newv.length := there_of hheap hcs hz' (by omega)
                  rw [h0]
                  have := run_append_room_src (P := P) w t t o.type e i hu hi p.blk (p.base + off) k cap (a.eval y) n2 newv hsrc (by omega) (fun j hj => (ht j hj).1) (fun j hj => (ht j hj).2)
                  rw [this, Nat.add_assoc]
              refine good_run (e := ⟨some (vO (.slc b off (k + n2) (.is m))), [(b, .row true sym (setN l (off + k * i.size) c2))], [], [b, b2]⟩) (run hrun) hK g1 g2 ⟨p, ad, cap, hp, rfl, had, by omega, hcm⟩ (fun _ _ => rfl)
            · obtain ⟨c1, hc1, hK⟩ := hno (by simpa using hfitm)
              obtain ⟨olds, hL1, hlen1, hcell1⟩ := cells_vals hR hp hrow hc1
              have hfit := growth_fits (n := k) (n2 := n2) (cap := cap) (bytes := i.bytes) (by omega) hmem hby
              have hold : (Builtin.firstCells i.size k (.slice (some ad) k cap)).run P w.drew = .ok olds.toArray w.drew :=
                run_firstCells_some w.drew i.size k ad k cap olds hlen1 (fun j u hj => by
                  rcases had with h0 | h0
                  · have : j < olds.length := (List.getElem?_eq_some_iff.1 hj).1
                    have : k = 0 := by omega
                    subst this
                    rw [Nat.zero_mul] at hlen1; omega
                  · rw [h0, Addr.add_mid]; exact hcell1 j u hj)
              have hrun := run_append_grow_src (P := P) w t t o.type e i zz hu hi hzz (some ad) k cap olds hold (a.eval y) n2 newv hsrc (by omega) hfit.1 hfit.2
              refine grown_good (ρ0 := ρ) (M0 := M) (t := t) (ty := t) (news1 := []) (n := k) (n2 := n2) (cap := cap) (olds := olds) (newv := newv) (z := zz) (e := e) (i := i) (wr := []) (l := c1 ++ c2) (sym := ((sym || allFlat c1) && (sym2 || allFlat c2))) (ft := [b, b2]) (run (by rw [hv]; exact hrun)) hzs (by simp [hlen1, hlen2, Nat.add_mul]) (isL_append hL1 hL2) (fun hs j s hj => ?_) hR (Ev.refl _ _ _) hn hM hd rfl hK
              rw [Bool.and_eq_true] at hs
              rw [nth_append] at hj
              split at hj
              · obtain ⟨g1, g2, g3⟩ := getN_spec hc1
                have hs1 := hs.1
                rw [Bool.or_eq_true] at hs1
                rcases hs1 with hs1 | hs1
                · exact hflat hs1 (off + j) s (by rw [← g3 j (by omega)]; exact hj)
                · exact allFlat_iff hs1 _ _ hj
              · exact hflat2' hs.2 _ _ hj
          | upto zsz =>
            obtain ⟨⟨hzz', hrw1, hend, hmem⟩, hK⟩ := h
            subst hzz'; subst hrw1
            have hcap' : p.base + off + cap * i.size ≤ p.fin := hcap
            have hbn : b ≠ nid := fun e => by subst e; rw [hp] at hn; cases hn
            have hflatA : ((sym || allFlat (dropN l off)) && (sym2 || allFlat c2)) = true → ∀ j s, nth (dropN l off ++ c2) j = some s → s.flat = true := fun hs j s hj => by
              rw [Bool.and_eq_true] at hs
              rw [nth_append] at hj
              split at hj
              · have hs1 := hs.1
                rw [Bool.or_eq_true] at hs1
                rcases hs1 with hs1 | hs1
                · rw [nth_drop] at hj; exact hflat hs1 _ _ hj
                · exact allFlat_iff hs1 _ _ hj
              · exact hflat2' hs.2 _ _ hj
            by_cases hroom : k + n2 ≤ cap
            · obtain ⟨m1, m2⟩ := move_row off hR hrow hp hn hM (by omega)
              have hM1 : nid < lenR (setRow M b .dead) := by rw [lenR_setRow]; exact hM
              have hrow' : rowAt (setRow (setRow M b .dead) nid (.row true sym (dropN l off))) nid = .row true sym (dropN l off) := rowAt_setRow_same _ hM1
              have hx2 : Ext ρ (upd ρ nid ⟨p.blk, p.base + off, p.fin⟩) := upd_ext hn
              have hdl : lenS (dropN l off) = k * i.size := by rw [lenS_drop]; omega
              have hmul : (k + n2) * i.size ≤ cap * i.size := Nat.mul_le_mul_right _ hroom
              rw [Nat.add_mul] at hmul
              obtain ⟨g1, g2⟩ := write_row (sym' := ((sym || allFlat (dropN l off)) && (sym2 || allFlat c2))) (l2 := dropN l off ++ c2) (o := k * i.size) m1 hrow' (upd_same _ _ _) (isL_ext hx2 hL2)
                (by show p.base + off + k * i.size + lenS c2 ≤ p.fin; omega)
                (by show p.base + off + lenS (dropN l off ++ c2) ≤ p.fin; rw [lenS_append]; omega)
                (fun j s hj h4 h5 => by rw [nth_append, if_neg (by omega)] at hj; rw [hdl] at hj; exact hj)
                (fun j s hj h4 => by
                  rw [nth_append] at hj
                  split at hj
                  · exact hj
                  · have := nth_lt hj; omega)
                hflatA
              rw [setRow_setRow] at g1 g2
              have hrun : (Builtin.append_ #[t, t] o.type #[a.eval x, a.eval y]).run P w = .ok (.slice (some ad) (k + n2) cap) (w.setCells p.blk (p.base + off + k * i.size) newv) := by
                rw [hv]
                rcases had with h0 | h0
                · have e0 : n2 = 0 := by omega
                  subst e0
                  have : newv = [] := List.eq_nil_of_length_eq_zero (by rw [hlen2, Nat.zero_mul])
                  subst this
                  have := run_append_nothing (P := P) w t t o.type e i hu hi (some ad) k cap hlc (a.eval y) hsrc
                  rw [this]; rfl
                · obtain ⟨hbl, c, T, lo, hi2, hheap, hcs, hz'⟩ := hrw rfl
                  have ht : w.there p.blk (p.base + off + k * i.size) newv.length := there_of hheap hcs hz' (by omega)
                  rw [h0]
                  exact run_append_room_src (P := P) w t t o.type e i hu hi p.blk (p.base + off) k cap (a.eval y) n2 newv hsrc (by omega) (fun j hj => (ht j hj).1) (fun j hj => (ht j hj).2)
              refine good_run (e := ⟨some (vO (.slc nid 0 (k + n2) (.upto i.size))), [(b, .dead)], [.row true ((sym || allFlat (dropN l off)) && (sym2 || allFlat c2)) (dropN l off ++ c2)], [b, b2]⟩) (run hrun) hK g1 (m2.trans g2) ⟨_, ad, cap, upd_same _ _ _, rfl, had, by omega, ?_⟩ (fresh_of nid _)
              show p.base + off + 0 + cap * i.size ≤ p.fin
              omega
            · have hc1 : getN l off (k * i.size) = some (dropN l off) := by
                unfold getN
                have : lenS (dropN l off) = k * i.size := by rw [lenS_drop]; omega
                rw [← this]; exact takeN_all _
              obtain ⟨olds, hL1, hlen1, hcell1⟩ := cells_vals hR hp hrow hc1
              have hfit := growth_fits (n := k) (n2 := n2) (cap := cap) (bytes := i.bytes) (by omega) hmem hby
              have hold : (Builtin.firstCells i.size k (.slice (some ad) k cap)).run P w.drew = .ok olds.toArray w.drew :=
                run_firstCells_some w.drew i.size k ad k cap olds hlen1 (fun j u hj => by
                  rcases had with h0 | h0
                  · have : j < olds.length := (List.getElem?_eq_some_iff.1 hj).1
                    have : k = 0 := by omega
                    subst this
                    rw [Nat.zero_mul] at hlen1; omega
                  · rw [h0, Addr.add_mid]; exact hcell1 j u hj)
              have hrun := run_append_grow_src (P := P) w t t o.type e i zz hu hi hzz (some ad) k cap olds hold (a.eval y) n2 newv hsrc (by omega) hfit.1 hfit.2
              refine grown_good (ρ0 := ρ) (M0 := M) (t := t) (ty := t) (news1 := []) (n := k) (n2 := n2) (cap := cap) (olds := olds) (newv := newv) (z := zz) (e := e) (i := i) (wr := [(b, .dead)]) (l := dropN l off ++ c2) (sym := ((sym || allFlat (dropN l off)) && (sym2 || allFlat c2))) (ft := [b, b2]) (run (by rw [hv]; exact hrun)) hzs (by simp [hlen1, hlen2, Nat.add_mul]) (isL_append hL1 hL2) hflatA (hR.kill b) (Ev.kill b) hn (by show nid < lenR (setRow M b .dead); rw [lenR_setRow]; exact hM) ?_ rfl hK
              show rowAt (setRow M b .dead) nid = .dead
              rw [rowAt_setRow_other _ _ hbn]; exact hd
        · exact h.elim
      · exact h.elim
    · exact h.elim
  · rename_i he2
    have hB : a.eval y = .slice none 0 0 := env_is hS hy he2
    have hsrc : Src P i.size t (a.eval y) 0 [] w := by rw [hB]; exact Src.ofNil w hu 0
    split at h
    · rename_i he
      have hA : a.eval x = .slice none 0 0 := env_is hS hx he
      have hrun := run_append_nothing (P := P) w t t o.type e i hu hi none 0 0 (Nat.le_refl _) (a.eval y) hsrc
      exact good_read hR (run (by rw [hA]; exact hrun)) h rfl
    · rename_i b off k cc he
      obtain ⟨p, ad, cap, hp, hv, had, hlc, hcap⟩ := env_is hS hx he
      have hrun := run_append_nothing (P := P) w t t o.type e i hu hi (some ad) k cap hlc (a.eval y) hsrc
      exact good_read hR (run (by rw [hv]; exact hrun)) h ⟨p, ad, cap, hp, rfl, had, hlc, hcap⟩
    · exact h.elim
  · exact h.elim
end Go.Proofs.Ytmdfkggflainbaa.VM
