/- The evaluator: operations on numbers, texts, slices. -/
import Derived.Test.YtmdfkggflainbaaVmG
namespace Go.Proofs.Ytmdfkggflainbaa.VM
open Go.RowKit
set_option linter.unusedVariables false
set_option linter.unusedSimpArgs false
variable {G : Ground} {P : Program} {ds : List Deferred} {eqs : List Nat} {news : FuncId → Nat} {ρ : PMap} {M : List Row} {w : World} {sl : Env} {a : Act} {n nid : Nat} {o : Oper} {nw : Nat} {K : Eff → Prop}
theorem fin_int {K : V → Prop} {f : Sem Value} {k : IntKind} {c : Int} (hk : K (vI k c)) (hr : f.run P w = .ok (.int k c) w) : ∃ v u, f.run P w = .ok u w ∧ v.Is ρ u ∧ K v := ⟨vI k c, _, hr, rfl, hk⟩
theorem fin_bool {K : V → Prop} {f : Sem Value} {c : Bool} (hk : K (vB c)) (hr : f.run P w = .ok (.bool c) w) : ∃ v u, f.run P w = .ok u w ∧ v.Is ρ u ∧ K v := ⟨vB c, _, hr, rfl, hk⟩
theorem fin_str {K : V → Prop} {f : Sem Value} {c : ByteArray} (hk : K (vS c)) (hr : f.run P w = .ok (.string c) w) : ∃ v u, f.run P w = .ok u w ∧ v.Is ρ u ∧ K v := ⟨vS c, _, hr, rfl, hk⟩
theorem binW_run {op : BinOp} {t : TypeId} {K : V → Prop} {sa sb : SV} {va vb : Value} (h : binW op K sa sb) (ha : sa.Is ρ va) (hb : sb.Is ρ vb) :
    ∃ v u, (binOp op t va vb).run P w = .ok u w ∧ v.Is ρ u ∧ K v := by
  cases sa with
  | int k x =>
    cases sb with
    | int k' y =>
      cases ha; cases hb
      cases op <;> simp only [binW] at h <;> obtain ⟨h1, h2⟩ := h
      case add => subst h1; exact fin_int h2.run (by simp [binOp, Op.intArith])
      case sub => subst h1; exact fin_int h2.run (by simp [binOp, Op.intArith])
      case mul => subst h1; exact fin_int h2.run (by simp [binOp, Op.intArith])
      case quo => obtain ⟨h1, h3⟩ := h1; subst h1; exact fin_int h2.run (by simp [binOp, Op.intDiv, h3])
      case rem => obtain ⟨h1, h3⟩ := h1; subst h1; exact fin_int h2 (by simp [binOp, Op.intDiv, h3])
      case and => subst h1; exact fin_int h2.run (by simp only [binOp, Op.intBits, ne_eq, not_true_eq_false, if_false]; rfl)
      case or => subst h1; exact fin_int h2.run (by simp only [binOp, Op.intBits, ne_eq, not_true_eq_false, if_false]; rfl)
      case xor => subst h1; exact fin_int h2.run (by simp only [binOp, Op.intBits, ne_eq, not_true_eq_false, if_false]; rfl)
      case andNot => subst h1; exact fin_int h2.run (by simp only [binOp, Op.intBits, ne_eq, not_true_eq_false, if_false]; rfl)
      case shl => exact fin_int h2.run (by simp [binOp, Op.shift, Int.not_lt.2 h1])
      case shr => exact fin_int h2 (by simp [binOp, Op.shift, Int.not_lt.2 h1])
      case eql => subst h1; exact fin_bool h2 (by simp only [binOp, Op.intCmp, ne_eq, not_true_eq_false, if_false]; rfl)
      case neq => subst h1; exact fin_bool h2 (by simp only [binOp, Op.intCmp, ne_eq, not_true_eq_false, if_false]; rfl)
      case lss => subst h1; exact fin_bool h2 (by simp only [binOp, Op.intCmp, ne_eq, not_true_eq_false, if_false]; rfl)
      case leq => subst h1; exact fin_bool h2 (by simp only [binOp, Op.intCmp, ne_eq, not_true_eq_false, if_false]; rfl)
      case gtr => subst h1; exact fin_bool h2 (by simp only [binOp, Op.intCmp, ne_eq, not_true_eq_false, if_false]; rfl)
      case geq => subst h1; exact fin_bool h2 (by simp only [binOp, Op.intCmp, ne_eq, not_true_eq_false, if_false]; rfl)
    | _ => exact h.elim
  | str x =>
    cases sb with
    | str y =>
      cases ha; cases hb
      cases op <;> simp only [binW] at h
      case add =>
        obtain ⟨h1, h2⟩ := h
        refine fin_str h2 ?_
        have : ¬ (IntKind.i64.max < ((x.size + y.size : Nat) : Int)) := by
          show ¬ ((9223372036854775807 : Int) < _)
          omega
        simp only [binOp, Op.stringOp, gt_iff_lt]
        rw [if_neg this]; rfl
      case eql => exact fin_bool h (by simp only [binOp, Op.stringOp]; rfl)
      case neq => exact fin_bool h (by simp only [binOp, Op.stringOp]; rfl)
      case lss => exact fin_bool h (by simp only [binOp, Op.stringOp]; rfl)
      case leq => exact fin_bool h (by simp only [binOp, Op.stringOp]; rfl)
      case gtr => exact fin_bool h (by simp only [binOp, Op.stringOp]; rfl)
      case geq => exact fin_bool h (by simp only [binOp, Op.stringOp]; rfl)
    | _ => exact h.elim
  | _ => cases sb <;> exact h.elim
theorem guard_scalar {op : BinOp} {t : TypeId} {x y : Operand} {u v : Value} (h : u.oneCell' = true) (h' : u ≠ .nilIface) : (eqGuard op t x y u v).run P w = .ok () w := by
  cases op <;> cases u <;> simp_all [eqGuard, Value.oneCell']
theorem notIface_of_Is {s : SV} {v : Value} (h : s.Is ρ v) (hs : s ≠ .any) (hs' : s ≠ .nili) : v ≠ .nilIface := by
  cases s
  · cases h; simp
  · cases h; simp
  · cases h; simp
  · obtain ⟨p, _, rfl⟩ := h; simp
  · cases h; simp
  · obtain ⟨p, a, cap, _, rfl, _⟩ := h; simp
  · cases h; simp
  · obtain ⟨vs, rfl, _⟩ := h; simp
  · cases h; simp
  · obtain ⟨p, _, rfl⟩ := h; simp
  · cases h; simp
  · cases h; simp
  · exact absurd rfl hs'
  · cases h; simp
  · obtain ⟨p, _, rfl⟩ := h; simp
  · exact absurd rfl hs
theorem run_binOp {op : BinOp} {t yt : TypeId} {x y : Operand} {u : Value} (ho : o.op = .binOp op t x y yt) (h1 : (eqGuard op t x y (a.eval x) (a.eval y)).run P w = .ok () w) (h2 : (binOp op t (a.eval x) (a.eval y)).run P w = .ok u w) :
    (execOp a.eval o).run P w = .ok (.value u) w := by
  unfold execOp; rw [ho]; simp [h1, h2]
theorem bin_good {op : BinOp} {t yt : TypeId} {x y : Operand} {vx vy : VX} {sa sb : SV} (ho : o.op = .binOp op t x y yt) (hx : cX x = some vx) (hy : cX y = some vy) (ha : env sl vx = some (.p (.o sa))) (hb : env sl vy = some (.p (.o sb)))
    (hS : SlotsOk ρ n ds sl a) (hR : Rep ρ M w) (h : binW op (fun v => K (val1 v)) sa sb) : Good P o a ρ M w nid nw K := by
  have hA := env_is hS hx ha
  have hB := env_is hS hy hb
  obtain ⟨v, u, h1, h2, h3⟩ := binW_run (P := P) (w := w) (t := t) h hA hB
  exact good_read hR (run_binOp ho (guard_scalar (oneCell_of_Is hA) (notIface_of_Is hA (fun e => by subst e; cases sb <;> exact h.elim) (fun e => by subst e; cases sb <;> exact h.elim))) h1) h3 h2
theorem run_eql_of {neg : Bool} {t : TypeId} {u v : Value} {c : Bool} (h : (Op.equal t u v).run P w = .ok c w) (hn : ∀ k x, u ≠ .int k x) (hs : ∀ s, u ≠ .string s) (hf : ∀ k b, u ≠ .float k b) (hc : ∀ k b c, u ≠ .complex k b c) :
    (binOp (if neg then .neq else .eql) t u v).run P w = .ok (.bool (negB neg c)) w := by
  cases neg <;> cases u <;> simp_all [binOp, negB]
theorem eqb_good {neg : Bool} {t yt : TypeId} {x y : Operand} {vx vy : VX} {p q : Bool} (ho : o.op = .binOp (if neg then .neq else .eql) t x y yt) (hu : P.underlying t = some .bool) (hx : cX x = some vx) (hy : cX y = some vy)
    (ha : env sl vx = some (.p (.o (.bool p)))) (hb : env sl vy = some (.p (.o (.bool q)))) (hS : SlotsOk ρ n ds sl a) (hR : Rep ρ M w) (h : K (val1 (vB (negB neg (p == q))))) : Good P o a ρ M w nid nw K := by
  have hA : a.eval x = .bool p := env_is hS hx ha
  have hB : a.eval y = .bool q := env_is hS hy hb
  refine good_read hR (u := .bool (negB neg (p == q))) ?_ h rfl
  refine run_binOp ho (by rw [hA]; exact guard_scalar rfl (by simp)) ?_
  rw [hA, hB]
  refine run_eql_of (t := t) ?_ (by simp) (by simp) (by simp) (by simp)
  show (Op.equalIn (9999 + 1) t (.bool p) (.bool q)).run P w = _
  generalize 9999 = d
  simp [Op.equalIn, run_underlying hu]
theorem isNil_run {k : Nat} {t : TypeId} {sa sb : SV} {p q : Bool} {va vb : Value} (hu : (k = 0 ∧ ∃ e, P.underlying t = some (.pointer e)) ∨ (k = 1 ∧ ∃ e, P.underlying t = some (.slice e)) ∨ (k = 2 ∧ ∃ x y z, P.underlying t = some (.func x y z)) ∨ (k = 3 ∧ ∃ x y, P.underlying t = some (.map x y)))
    (h1 : isNil k sa = some p) (h2 : isNil k sb = some q) (h3 : p = true ∨ q = true) (ha : sa.Is ρ va) (hb : sb.Is ρ vb) : (Op.equal t va vb).run P w = .ok (p == q) w := by
  show (Op.equalIn (9999 + 1) t va vb).run P w = _
  generalize 9999 = d
  rcases hu with ⟨rfl, e, hu⟩ | ⟨rfl, e, hu⟩ | ⟨rfl, x, y, z, hu⟩ | ⟨rfl, x, y, hu⟩
  · cases sa <;> simp only [isNil] at h1 <;> (try (cases h1; done)) <;> cases h1 <;> cases sb <;> simp only [isNil] at h2 <;> (try (cases h2; done)) <;> cases h2
    · simp at h3
    · obtain ⟨p, _, rfl⟩ := ha; cases hb; simp [Op.equalIn, run_underlying hu]
    · obtain ⟨p, _, rfl⟩ := hb; cases ha; simp [Op.equalIn, run_underlying hu]
    · cases ha; cases hb; simp [Op.equalIn, run_underlying hu]
  · cases sa <;> simp only [isNil] at h1 <;> (try (cases h1; done)) <;> cases h1 <;> cases sb <;> simp only [isNil] at h2 <;> (try (cases h2; done)) <;> cases h2
    · simp at h3
    · obtain ⟨p, x, c, _, rfl, _⟩ := ha; cases hb; simp [Op.equalIn, run_underlying hu]
    · obtain ⟨p, x, c, _, rfl, _⟩ := hb; cases ha; simp [Op.equalIn, run_underlying hu]
    · cases ha; cases hb; simp [Op.equalIn, run_underlying hu]
  · cases sa <;> simp only [isNil] at h1 <;> (try (cases h1; done)) <;> cases h1 <;> cases sb <;> simp only [isNil] at h2 <;> (try (cases h2; done)) <;> cases h2
    · simp at h3
    · obtain ⟨p, rfl, _⟩ := ha; cases hb; simp [Op.equalIn, run_underlying hu]
    · obtain ⟨p, rfl, _⟩ := hb; cases ha; simp [Op.equalIn, run_underlying hu]
    · cases ha; cases hb; simp [Op.equalIn, run_underlying hu]
  · cases sa <;> simp only [isNil] at h1 <;> (try (cases h1; done)) <;> cases h1 <;> cases sb <;> simp only [isNil] at h2 <;> (try (cases h2; done)) <;> cases h2
    · simp at h3
    · obtain ⟨p, _, rfl⟩ := ha; cases hb; simp [Op.equalIn, run_underlying hu]
    · obtain ⟨p, _, rfl⟩ := hb; cases ha; simp [Op.equalIn, run_underlying hu]
    · cases ha; cases hb; simp [Op.equalIn, run_underlying hu]
theorem ifn_good {op : BinOp} {t yt : TypeId} {x y : Operand} {v : VOp} (ho : o.op = .binOp op t x y yt) (hc : cIfn P op t x y = some v) (hS : SlotsOk ρ n ds sl a) (hR : Rep ρ M w) (h : opW G P false sl M nid v K) : Good P o a ρ M w nid nw K := by
  unfold cIfn at hc
  split at hc
  · split at hc
    · rename_i ms x' hu hx
      have key : ∀ neg, o.op = .binOp (if neg then .neq else .eql) t x (.const .nilIface) yt → opW G P false sl M nid (.ifn neg x') K → Good P o a ρ M w nid nw K := fun neg ho h => by
        have hB : a.eval (.const .nilIface) = .nilIface := rfl
        simp only [opW] at h
        split at h
        · rename_i he
          have hA : a.eval x = .nilIface := env_is hS hx he
          refine good_read hR (u := .bool (negB neg true)) (run_binOp ho ?_ ?_) h rfl
          · rw [hA, hB]; cases neg <;> simp [eqGuard]
          · rw [hA, hB]
            refine run_eql_of (c := true) ?_ (by simp) (by simp) (by simp) (by simp)
            show (Op.equalIn (9999 + 1) t _ _).run P w = _
            generalize 9999 = d
            simp [Op.equalIn, run_underlying hu]
        · rename_i tt k m he
          have hA : a.eval x = .iface tt (.int k m) := env_is hS hx he
          refine good_read hR (u := .bool (negB neg false)) (run_binOp ho ?_ ?_) h rfl
          · rw [hA, hB]; cases neg <;> simp [eqGuard]
          · rw [hA, hB]
            refine run_eql_of (c := false) ?_ (by simp) (by simp) (by simp) (by simp)
            show (Op.equalIn (9999 + 1) t _ _).run P w = _
            generalize 9999 = d
            simp [Op.equalIn, run_underlying hu]
        · exact h.elim
      split at hc
      · cases hc; exact key false ho h
      · cases hc; exact key true ho h
      · cases hc
    · cases hc
  · cases hc
theorem eqr_good {k : Nat} {neg : Bool} {t yt : TypeId} {x y : Operand} {vx vy : VX} {sa sb : SV} {p q : Bool} (ho : o.op = .binOp (if neg then .neq else .eql) t x y yt)
    (hu : (k = 0 ∧ ∃ e, P.underlying t = some (.pointer e)) ∨ (k = 1 ∧ ∃ e, P.underlying t = some (.slice e)) ∨ (k = 2 ∧ ∃ x y z, P.underlying t = some (.func x y z)) ∨ (k = 3 ∧ ∃ x y, P.underlying t = some (.map x y)))
    (hx : cX x = some vx) (hy : cX y = some vy) (ha : env sl vx = some (.p (.o sa))) (hb : env sl vy = some (.p (.o sb))) (h1 : isNil k sa = some p) (h2 : isNil k sb = some q) (h3 : p = true ∨ q = true)
    (hS : SlotsOk ρ n ds sl a) (hR : Rep ρ M w) (h : K (val1 (vB (negB neg (p == q))))) : Good P o a ρ M w nid nw K := by
  have hA : sa.Is ρ (a.eval x) := env_is hS hx ha
  have hB : sb.Is ρ (a.eval y) := env_is hS hy hb
  have hE := isNil_run (w := w) hu h1 h2 h3 hA hB
  refine good_read hR (u := .bool (negB neg (p == q))) (run_binOp ho (guard_scalar (oneCell_of_Is hA) (notIface_of_Is hA (fun e => by subst e; rcases hu with ⟨rfl, _⟩ | ⟨rfl, _⟩ | ⟨rfl, _⟩ | ⟨rfl, _⟩ <;> cases h1) (fun e => by subst e; rcases hu with ⟨rfl, _⟩ | ⟨rfl, _⟩ | ⟨rfl, _⟩ | ⟨rfl, _⟩ <;> cases h1))) ?_) h rfl
  refine run_eql_of hE ?_ ?_ ?_ ?_
  all_goals
    (rcases hu with ⟨rfl, _⟩ | ⟨rfl, _⟩ | ⟨rfl, _⟩ | ⟨rfl, _⟩ <;> cases sa <;> simp only [isNil] at h1 <;> (try (cases h1; done)))
  all_goals first
    | (obtain ⟨p, _, hq⟩ := hA; rw [hq]; simp)
    | (obtain ⟨p, x, c, _, hq, _⟩ := hA; rw [hq]; simp)
    | (obtain ⟨p, hq, _⟩ := hA; rw [hq]; simp)
    | (rw [show a.eval x = _ from hA]; simp)
theorem un_good {op : UnOp} {t : TypeId} {x : Operand} {vx : VX} (ho : o.op = .unOp op t x) (hx : cX x = some vx) (hS : SlotsOk ρ n ds sl a) (hR : Rep ρ M w)
    (h : opW G P false sl M nid (.un op vx) K) : Good P o a ρ M w nid nw K := by
  simp only [opW] at h
  split at h
  · rename_i b he
    have hA : a.eval x = .bool b := env_is hS hx he
    refine good_read hR (u := .bool !b) (run_v (f := Op.unary .not (a.eval x)) (by unfold execOp; rw [ho]) (by rw [hA]; rfl)) h rfl
  · rename_i k m he
    have hA : a.eval x = .int k m := env_is hS hx he
    exact good_read hR (run_v (f := Op.unary .neg (a.eval x)) (by unfold execOp; rw [ho]) (by rw [hA]; rfl)) h.run rfl
  · rename_i k m he
    have hA : a.eval x = .int k m := env_is hS hx he
    exact good_read hR (run_v (f := Op.unary .xor (a.eval x)) (by unfold execOp; rw [ho]) (by rw [hA]; rfl)) h.run rfl
  · exact h.elim
theorem cvi_good {s t : TypeId} {j k : IntKind} {x : Operand} {vx : VX} {q : IntKind} {m : Int} (ho : o.op = .convert s t x) (hs : P.underlying s = some (.int j)) (ht : P.underlying t = some (.int k)) (hx : cX x = some vx)
    (he : env sl vx = some (.p (.o (.int q m)))) (hS : SlotsOk ρ n ds sl a) (hR : Rep ρ M w) (h : Arith k m fun c => K (val1 (vI k c))) : Good P o a ρ M w nid nw K := by
  have hA : a.eval x = .int q m := env_is hS hx he
  refine good_read hR (run_v (f := convert s t (a.eval x)) (by unfold execOp; rw [ho]) ?_) h.run rfl
  rw [hA]; simp [convert, run_underlying hs, run_underlying ht, Conv.intToInt]
theorem cvs_good {s t : TypeId} {x : Operand} {vx : VX} {m : ByteArray} (ho : o.op = .convert s t x) (hs : P.underlying s = some .string) (ht : P.underlying t = some .string) (hx : cX x = some vx)
    (he : env sl vx = some (.p (.o (.str m)))) (hS : SlotsOk ρ n ds sl a) (hR : Rep ρ M w) (h : K (val1 (vS m))) : Good P o a ρ M w nid nw K := by
  have hA : a.eval x = .string m := env_is hS hx he
  refine good_read hR (run_v (f := convert s t (a.eval x)) (by unfold execOp; rw [ho]) ?_) h rfl
  rw [hA]; simp [convert, run_underlying hs, run_underlying ht]
theorem nth_bytesSV : ∀ (l : List UInt8) (i : Nat), nth (bytesSV l) i = (l[i]?).map fun b => .int .u8 (b.toNat : Int)
  | [], i => rfl
  | b :: l, 0 => rfl
  | b :: l, i + 1 => by simp only [bytesSV, nth, List.getElem?_cons_succ]; exact nth_bytesSV l i
theorem lenS_bytesSV : ∀ (l : List UInt8), lenS (bytesSV l) = l.length
  | [] => rfl
  | b :: l => by simp [bytesSV, lenS, lenS_bytesSV l]
theorem s2b_good {s t e : TypeId} {x : Operand} {vx : VX} {m : ByteArray} (ho : o.op = .convert s t x) (hs : P.underlying s = some .string) (ht : P.underlying t = some (.slice e)) (he8 : P.underlying e = some (.int .u8)) (hx : cX x = some vx)
    (he : env sl vx = some (.p (.o (.str m)))) (hS : SlotsOk ρ n ds sl a) (hR : Rep ρ M w) (hn : ρ nid = none) (hM : nid < lenR M) (hd : rowAt M nid = .dead)
    (h : K ⟨some (vO (.slc nid 0 m.size (.upto 1))), [], [.row true true (bytesSV m.data.toList)], []⟩) : Good P o a ρ M w nid 1 K := by
  have hA : a.eval x = .string m := env_is hS hx he
  have hrun := run_bytes_of_string (P := P) w s t e m hs ht he8
  have hcap : m.size ≤ grownCap w m.size 0 e := by simp only [grownCap, Question.cut]; omega
  have hsz : (bytesRow m (grownCap w m.size 0 e)).size = grownCap w m.size 0 e := by
    have : m.data.size = m.size := rfl
    simp only [bytesRow, Array.size_append, Array.size_map, Array.size_replicate]; omega
  refine good_new (w' := w.drew.alloc (.cells (bytesRow m (grownCap w m.size 0 e)) e ((bytesRow m (grownCap w m.size 0 e)).size, (bytesRow m (grownCap w m.size 0 e)).size + 1))) hR hn hM hd (run_v (f := convert s t (a.eval x)) (by unfold execOp; rw [ho]) (by rw [hA]; exact hrun)) rfl rfl rfl rfl (.inr (Nat.le_refl _)) h ?_ (fun i s hi => ?_) (fun _ i s hi => ?_)
    ⟨_, _, grownCap w m.size 0 e, upd_same _ _ _, rfl, .inr rfl, hcap, by show 0 + 0 + grownCap w m.size 0 e * 1 ≤ (bytesRow m (grownCap w m.size 0 e)).size; omega⟩
  · rw [lenS_bytesSV, hsz]; exact hcap
  · rw [nth_bytesSV] at hi
    simp only [Option.map_eq_some_iff] at hi
    obtain ⟨b, hb, rfl⟩ := hi
    have hlt : i < m.data.toList.length := (List.getElem?_eq_some_iff.1 hb).1
    refine ⟨_, rfl, ?_⟩
    simp only [bytesRow]
    rw [Array.getElem?_append_left (by simpa using hlt), Array.getElem?_map]
    rw [Array.getElem?_toList] at hb
    rw [hb]; rfl
  · rw [nth_bytesSV] at hi
    simp only [Option.map_eq_some_iff] at hi
    obtain ⟨b, hb, rfl⟩ := hi
    rfl
theorem bytesOf_ints : ∀ {c : List SV} {bs : List UInt8}, bytesOf c = some bs → ∃ ns : List Int, c = ns.map (SV.int .u8) ∧ bs = ns.map fun n => UInt8.ofNat n.toNat
  | [], bs, h => by cases h; exact ⟨[], rfl, rfl⟩
  | s :: c, bs, h => by
    unfold bytesOf at h
    split at h
    · cases h; exact ⟨[], by simp_all, rfl⟩
    · rename_i m l heq
      split at h
      · rename_i r hr
        cases h
        simp only [List.cons.injEq] at heq
        obtain ⟨rfl, rfl⟩ := heq
        obtain ⟨ns, h1, h2⟩ := bytesOf_ints hr
        exact ⟨m :: ns, by simp [h1], by simp [h2]⟩
      · cases h
    · cases h
theorem isL_ints : ∀ {ns : List Int} {vs : List Value}, isL ρ (ns.map (SV.int .u8)) vs → vs = ns.map (Value.int .u8)
  | [], _, h => h
  | m :: ns, _, ⟨v, r, h1, h2, h3⟩ => by
    subst h1
    cases h2
    rw [isL_ints h3]; rfl
theorem foldl_push : ∀ (ns : List Int) (r : ByteArray), ns.foldl (fun r n => r.push (UInt8.ofNat n.toNat)) r = ⟨r.data ++ (ns.map fun n => UInt8.ofNat n.toNat).toArray⟩
  | [], r => by simp
  | b :: l, r => by
    simp only [List.foldl_cons]
    rw [foldl_push l]
    simp [ByteArray.push]
theorem nth_ints : ∀ {ns : List Int} {j : Nat} {m : Int}, ns[j]? = some m → nth (ns.map (SV.int .u8)) j = some (.int .u8 m)
  | [], j, m, h => by simp at h
  | x :: ns, 0, m, h => by simp only [List.getElem?_cons_zero, Option.some.injEq] at h; subst h; rfl
  | x :: ns, j + 1, m, h => nth_ints (ns := ns) (by simpa using h)
theorem b2s_good {s t e : TypeId} {x : Operand} {vx : VX} (ho : o.op = .convert s t x) (hs : P.underlying s = some (.slice e)) (ht : P.underlying t = some .string) (he8 : P.underlying e = some (.int .u8)) (hx : cX x = some vx)
    (hS : SlotsOk ρ n ds sl a) (hR : Rep ρ M w) (h : opW G P false sl M nid (.b2s vx) K) : Good P o a ρ M w nid nw K := by
  simp only [opW] at h
  split at h
  · rename_i he
    have hA : a.eval x = .slice none 0 0 := env_is hS hx he
    refine good_read hR (u := .string ⟨#[]⟩) (run_v (f := convert s t (a.eval x)) (by unfold execOp; rw [ho]) ?_) h rfl
    rw [hA]; simp [convert, run_underlying hs, run_underlying ht, run_underlying he8, Conv.bytesToString]
    rfl
  · rename_i b off k cc he
    split at h
    · rename_i rw_ sym l hrow
      obtain ⟨c, hc, ⟨bs, hbs, hK⟩⟩ := h
      obtain ⟨p, ad, cap, hp, hv, had, hlc, hcap⟩ := env_is hS hx he
      obtain ⟨q, hq, hr⟩ := hR.rows b (by rw [hrow]; rfl)
      rw [hp] at hq; cases hq
      rw [hrow] at hr
      obtain ⟨ns, h1, h2⟩ := bytesOf_ints hbs
      obtain ⟨g1, g2, g3⟩ := getN_spec hc
      have hns : ns.length = k := by rw [← g1, h1]; clear h1 h2 g1 g3 hK; induction ns <;> simp_all [lenS]
      refine good_read hR (u := .string ⟨bs.toArray⟩) (run_v (f := convert s t (a.eval x)) (by unfold execOp; rw [ho]) ?_) hK rfl
      rw [hv, run_convert_bytes_string w s t e _ _ _ hs he8 ht]
      have hl : (loadCells ad k).run P w = .ok (ns.map (Value.int .u8)).toArray w := by
        have := run_loadCells_list (P := P) w ad (ns.map (Value.int .u8)) (fun j v hj => by
          have hjl : j < k := by have := (List.getElem?_eq_some_iff.1 hj).1; simpa [hns] using this
          rcases had with h0 | h0
          · omega
          · rw [h0, Addr.add_mid]
            obtain ⟨sv, hsv⟩ := nth_some (show j < lenS c by omega)
            obtain ⟨u, hu1, hu2⟩ := hr.2.1 (off + j) sv (by rw [← g3 j hjl]; exact hsv)
            rw [Nat.add_assoc, hu2]
            simp only [List.getElem?_map, Option.map_eq_some_iff] at hj
            obtain ⟨m, hm, rfl⟩ := hj
            have : nth c j = some (.int .u8 m) := by rw [h1]; exact nth_ints hm
            rw [this] at hsv; cases hsv; cases hu1; rfl)
        rwa [List.length_map, hns] at this
      rw [run_bytesToString w ad k cap ns hl, foldl_push, h2]
      simp
    · exact h.elim
  · exact h.elim
end Go.Proofs.Ytmdfkggflainbaa.VM
