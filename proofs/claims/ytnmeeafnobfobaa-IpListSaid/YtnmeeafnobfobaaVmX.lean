/- The evaluator run on plain values: what it answers is so. -/
import Derived.Test.YtnmeeafnobfobaaVmR
namespace Go.Proofs.Ytnmeeafnobfobaa.VM
open Go.RowKit
set_option linter.unusedVariables false
set_option linter.unusedSimpArgs false
def needE (p : Prop) [Decidable p] (a : Option Eff) : Option Eff := if p then a else none
def testE (b : Bool) (x y : Option Eff) : Option Eff := match b with
  | true => x
  | false => y
def lookE (l : List SV) (i : Nat) (K : SV → Option Eff) : Option Eff := match nth l i with
  | some s => K s
  | none => none
def lookNE (l : List SV) (o n : Nat) (K : List SV → Option Eff) : Option Eff := match getN l o n with
  | some s => K s
  | none => none
def bytesE (l : List SV) (K : List UInt8 → Option Eff) : Option Eff := match bytesOf l with
  | some s => K s
  | none => none
def arithE (k : IntKind) (e : Int) (K : Int → Option Eff) : Option Eff := K (k.wrap e)
def kE (v : V) : Option Eff := some (val1 v)
def partsE (sl : Env) (zero : List SV) : List (Nat × Nat × VX) → (List SV → Option Eff) → Option Eff
  | [], K => K zero
  | (off, size, x) :: r, K => match env sl x with
    | some (.p (.o s)) => match Nat.beq size 1, Nat.ble (off + 1) (lenS zero) with
      | true, true => partsE sl (setN zero off [s]) r K
      | _, _ => none
    | some (.p (.a l)) => match Nat.beq size (lenS l), Nat.ble (off + size) (lenS zero) with
      | true, true => partsE sl (setN zero off l) r K
      | _, _ => none
    | _ => none
def intOfE (sl : Env) : Option VX → Int → (Int → Option Eff) → Option Eff
  | none, d, K => K d
  | some x, _, K => match env sl x with
    | some (.p (.o (.int _ n))) => K n
    | _ => none
def binE (op : BinOp) : SV → SV → Option Eff
  | .int k a, .int k' b => match op with
    | .shl => needE (0 ≤ b) (arithE k (a * 2 ^ (min b.toNat k.bits)) fun c => kE (vI k c))
    | .shr => needE (0 ≤ b) (kE (vI k (a.fdiv (2 ^ (min b.toNat k.bits)))))
    | .add => needE (k = k') (arithE k (a + b) fun c => kE (vI k c))
    | .sub => needE (k = k') (arithE k (a - b) fun c => kE (vI k c))
    | .mul => needE (k = k') (arithE k (a * b) fun c => kE (vI k c))
    | .quo => needE (k = k' ∧ b ≠ 0) (arithE k (a.tdiv b) fun c => kE (vI k c))
    | .rem => needE (k = k' ∧ b ≠ 0) (kE (vI k (a.tmod b)))
    | .and => needE (k = k') (arithE k (BitVec.ofInt k.bits a &&& BitVec.ofInt k.bits b).toNat fun c => kE (vI k c))
    | .or => needE (k = k') (arithE k (BitVec.ofInt k.bits a ||| BitVec.ofInt k.bits b).toNat fun c => kE (vI k c))
    | .xor => needE (k = k') (arithE k (BitVec.ofInt k.bits a ^^^ BitVec.ofInt k.bits b).toNat fun c => kE (vI k c))
    | .andNot => needE (k = k') (arithE k (BitVec.ofInt k.bits a &&& ~~~(BitVec.ofInt k.bits b)).toNat fun c => kE (vI k c))
    | .eql => needE (k = k') (kE (vB (a == b)))
    | .neq => needE (k = k') (kE (vB (a != b)))
    | .lss => needE (k = k') (kE (vB (decide (a < b))))
    | .leq => needE (k = k') (kE (vB (decide (a ≤ b))))
    | .gtr => needE (k = k') (kE (vB (decide (a > b))))
    | .geq => needE (k = k') (kE (vB (decide (a ≥ b))))
  | .str x, .str y => match op with
    | .add => needE (x.size + y.size ≤ 9223372036854775807) (kE (vS (x ++ y)))
    | .eql => kE (vB (x.toList == y.toList))
    | .neq => kE (vB (!(x.toList == y.toList)))
    | .lss => kE (vB (Op.bytesLess x.toList y.toList))
    | .leq => kE (vB (Op.bytesLess x.toList y.toList || x.toList == y.toList))
    | .gtr => kE (vB (!(Op.bytesLess x.toList y.toList || x.toList == y.toList)))
    | .geq => kE (vB (!(Op.bytesLess x.toList y.toList)))
    | _ => none
  | _, _ => none
abbrev CallE := FuncId → List PV → List Row → Option (V × List Row)
def callE (call : CallE) (M : List Row) (nid : Nat) (f : FuncId) (vs : List PV) (news : Nat) : Option Eff :=
  match reach M fuel (idsPL vs) [] with
  | ids => match okIds M (idsPL vs) ids && outB nid news ids with
    | true => match call f (renPL (fun b => idx b ids) vs) (rowsAt M (fun b => idx b ids) ids) with
      | some (v, M') => match Nat.ble (lenI ids) (lenR M') && Nat.ble (lenR M') (lenI ids + news) with
        | true => some ⟨some (v.ren (back ids nid)), zipIds ids (renRows (back ids nid) M'), dropRows (renRows (back ids nid) M') (lenI ids), ids⟩
        | false => none
      | none => none
    | false => none
def opE (call : CallE) (sl : Env) (M : List Row) (nid : Nat) : VOp → Option Eff
  | .mv x => match env sl x with
    | some v => some (val1 v)
    | none => none
  | .pick c a b => match env sl c with
    | some (.p (.o (.bool c))) => testE c (match env sl a with
        | some v => some (val1 v)
        | none => none) (match env sl b with
        | some v => some (val1 v)
        | none => none)
    | _ => none
  | .new l => some ⟨some (vO (.ptr nid 0)), [], [.row true false l], []⟩
  | .box x => match env sl x with
    | some (.p (.o s)) => some ⟨some (vO (.ptr nid 0)), [], [.row true false [s]], []⟩
    | some (.p (.a l)) => some ⟨some (vO (.ptr nid 0)), [], [.row true false l], []⟩
    | _ => none
  | .bld zero parts => partsE sl zero parts fun l => some (val1 (.p (.a l)))
  | .bsl n zero parts => partsE sl zero parts fun l => some ⟨some (vO (.slc nid 0 n (.is n))), [], [.row true false l], []⟩
  | .ld none x => match env sl x with
    | some (.p (.o (.ptr b o))) => match rowAt M b with
      | .row _ _ l => lookE l o fun s => some ⟨some (vO s), [], [], [b]⟩
      | .dead => none
    | _ => none
  | .ld (some n) x => match env sl x with
    | some (.p (.o (.ptr b o))) => match rowAt M b with
      | .row _ _ l => lookNE l o n fun c => some ⟨some (.p (.a c)), [], [], [b]⟩
      | .dead => none
    | _ => none
  | .st size x v => match env sl x with
    | some (.p (.o (.ptr b o))) => match rowAt M b with
      | .row true sym l => match env sl v with
        | some v => match cellsOf v with
          | some c => needE (lenS c = size) (needE (o + size ≤ lenS l) (needE (sym = true → allFlat c = true) (some ⟨none, [(b, .row true sym (setN l o c))], [], [b]⟩)))
          | none => none
        | none => none
      | _ => none
    | _ => none
  | .nilc x => match env sl x with
    | some (.p (.o (.ptr b o))) => some (val1 (vO (.ptr b o)))
    | some (.p (.o (.fn f c))) => some (val1 (vO (.fn f c)))
    | _ => none
  | .bin op x y => match env sl x with
    | some (.p (.o a)) => match env sl y with
      | some (.p (.o b)) => binE op a b
      | _ => none
    | _ => none
  | .eq .bool neg x y => match env sl x with
    | some (.p (.o (.bool a))) => match env sl y with
      | some (.p (.o (.bool b))) => some (val1 (vB (negB neg (a == b))))
      | _ => none
    | _ => none
  | .eq (.flat ks) neg x y => match env sl x with
    | some (.p (.a a)) => match env sl y with
      | some (.p (.a b)) => match eqCells ks a b with
        | some c => some (val1 (vB (negB neg c)))
        | none => none
      | _ => none
    | _ => none
  | .eq (.ref k) neg x y => match env sl x with
    | some (.p (.o a)) => match env sl y with
      | some (.p (.o b)) => match isNil k a, isNil k b with
        | some true, some c => some (val1 (vB (negB neg c)))
        | some false, some true => some (val1 (vB (negB neg false)))
        | _, _ => none
      | _ => none
    | _ => none
  | .un op x => match op, env sl x with
    | .not, some (.p (.o (.bool b))) => some (val1 (vB !b))
    | .neg, some (.p (.o (.int k n))) => arithE k (0 - n) fun c => some (val1 (vI k c))
    | .xor, some (.p (.o (.int k n))) => arithE k (BitVec.ofInt k.bits (if k.signed then -1 else k.max) ^^^ BitVec.ofInt k.bits n).toNat fun c => some (val1 (vI k c))
    | _, _ => none
  | .cvi k x => match env sl x with
    | some (.p (.o (.int _ n))) => arithE k n fun c => some (val1 (vI k c))
    | _ => none
  | .cvs x => match env sl x with
    | some (.p (.o (.str s))) => some (val1 (vS s))
    | _ => none
  | .s2b x => match env sl x with
    | some (.p (.o (.str s))) => some ⟨some (vO (.slc nid 0 s.size (.upto 1))), [], [.row true true (bytesSV s.data.toList)], []⟩
    | _ => none
  | .b2s x => match env sl x with
    | some (.p (.o .nils)) => some (val1 (vS ⟨#[]⟩))
    | some (.p (.o (.slc b o n _))) => match rowAt M b with
      | .row _ _ l => lookNE l o n fun c => bytesE c fun bs => some ⟨some (vS ⟨bs.toArray⟩), [], [], [b]⟩
      | .dead => none
    | _ => none
  | .mkf f caps => match envCaps sl caps with
    | some cs => some (val1 (vO (.fn f cs)))
    | none => none
  | .sls x lo hi => match env sl x with
    | some (.p (.o (.str s))) => intOfE sl lo 0 fun l => intOfE sl hi s.size fun h => needE (0 ≤ l ∧ l ≤ h ∧ h ≤ s.size) (some (val1 (vS (s.extract l.toNat h.toNat))))
    | _ => none
  | .sll size x lo hi => match env sl x with
    | some (.p (.o (.slc b o n c))) => intOfE sl lo 0 fun l => intOfE sl hi n fun h => needE (0 ≤ l ∧ l ≤ h ∧ h ≤ n)
        (match c with
         | .is m => some (val1 (vO (.slc b (o + l.toNat * size) (h.toNat - l.toNat) (.is (m - l.toNat)))))
         | .upto z => needE (z = size) (some (val1 (vO (.slc b (o + l.toNat * size) (h.toNat - l.toNat) (.upto z))))))
    | some (.p (.o .nils)) => intOfE sl lo 0 fun l => intOfE sl hi 0 fun h => needE (l = 0 ∧ h = 0) (some (val1 (vO .nils)))
    | _ => none
  | .sla n size x lo hi => match env sl x with
    | some (.p (.o (.ptr b o))) => intOfE sl lo 0 fun l => intOfE sl hi n fun h => needE (0 ≤ l ∧ l ≤ h ∧ h ≤ n)
        (some (val1 (vO (.slc b (o + l.toNat * size) (h.toNat - l.toNat) (.is (n - l.toNat))))))
    | _ => none
  | .fad off x => match env sl x with
    | some (.p (.o (.ptr b o))) => some (val1 (vO (.ptr b (o + off))))
    | _ => none
  | .fld off none x => match env sl x with
    | some (.p (.a l)) => lookE l off fun s => some (val1 (vO s))
    | _ => none
  | .fld off (some n) x => match env sl x with
    | some (.p (.a l)) => lookNE l off n fun c => some (val1 (.p (.a c)))
    | _ => none
  | .iad size x i => match env sl x with
    | some (.p (.o (.slc b o n _))) => match env sl i with
      | some (.p (.o (.int _ i))) => needE (0 ≤ i ∧ i < n) (some (val1 (vO (.ptr b (o + i.toNat * size)))))
      | _ => none
    | _ => none
  | .iaa n size x i => match env sl x with
    | some (.p (.o (.ptr b o))) => match env sl i with
      | some (.p (.o (.int _ i))) => needE (0 ≤ i ∧ i < n) (some (val1 (vO (.ptr b (o + i.toNat * size)))))
      | _ => none
    | _ => none
  | .ixs x i => match env sl x with
    | some (.p (.o (.str s))) => match env sl i with
      | some (.p (.o (.int _ i))) => needE (0 ≤ i ∧ i < s.size) (some (val1 (vI .u8 (bAt s i.toNat))))
      | _ => none
    | _ => none
  | .ixa n size none x i => match env sl x with
    | some (.p (.a l)) => match env sl i with
      | some (.p (.o (.int _ i))) => needE (0 ≤ i ∧ i < n) (lookE l (i.toNat * size) fun s => some (val1 (vO s)))
      | _ => none
    | _ => none
  | .ixa n size (some z) x i => match env sl x with
    | some (.p (.a l)) => match env sl i with
      | some (.p (.o (.int _ i))) => needE (0 ≤ i ∧ i < n) (lookNE l (i.toNat * size) z fun c => some (val1 (.p (.a c))))
      | _ => none
    | _ => none
  | .ext i x => match env sl x with
    | some (.t l) => match l[i]? with
      | some y => some (val1 (.p y))
      | none => none
    | _ => none
  | .len false x => match env sl x with
    | some (.p (.o (.str s))) => some (val1 (vI .i64 s.size))
    | _ => none
  | .len true x => match env sl x with
    | some (.p (.o (.slc _ _ n _))) => some (val1 (vI .i64 n))
    | some (.p (.o .nils)) => some (val1 (vI .i64 0))
    | _ => none
  | .lenc n => some (val1 (vI .i64 n))
  | .app size bytes x y => match env sl y with
    | some (.p (.o (.slc b2 o2 n2 _))) => match rowAt M b2 with
      | .row _ sym2 l2 => lookNE l2 o2 (n2 * size) fun c2 => match env sl x with
        | some (.p (.o .nils)) => needE (0 < n2 ∧ n2 * bytes ≤ 140737488355328) (some ⟨some (vO (.slc nid 0 n2 (.upto size))), [], [.row true (sym2 || allFlat c2) c2], [b2]⟩)
        | some (.p (.o (.slc b o n c))) => match rowAt M b with
          | .row rw sym l => match c with
            | .is m => needE ((n + n2) * bytes ≤ 140737488355328) (testE (decide (n + n2 ≤ m))
                (needE (rw = true ∧ o + n * size + n2 * size ≤ lenS l ∧ (sym = true → allFlat c2 = true))
                  (some ⟨some (vO (.slc b o (n + n2) (.is m))), [(b, .row rw sym (setN l (o + n * size) c2))], [], [b, b2]⟩))
                (lookNE l o (n * size) fun c1 => some ⟨some (vO (.slc nid 0 (n + n2) (.upto size))), [], [.row true ((sym || allFlat c1) && (sym2 || allFlat c2)) (c1 ++ c2)], [b, b2]⟩))
            | .upto z => needE (z = size ∧ rw = true ∧ o + n * size = lenS l ∧ (n + n2) * bytes ≤ 140737488355328)
                (some ⟨some (vO (.slc nid 0 (n + n2) (.upto size))), [(b, .dead)], [.row true ((sym || allFlat (dropN l o)) && (sym2 || allFlat c2)) (dropN l o ++ c2)], [b, b2]⟩)
          | .dead => none
        | _ => none
      | .dead => none
    | some (.p (.o .nils)) => match env sl x with
      | some (.p (.o .nils)) => some (val1 (vO .nils))
      | some (.p (.o (.slc b o n c))) => some (val1 (vO (.slc b o n c)))
      | _ => none
    | _ => none
  | .apps x y => none
  | .mks size bytes zero n m => match env sl n with
    | some (.p (.o (.int _ n))) => match env sl m with
      | some (.p (.o (.int _ m))) => needE (0 ≤ n ∧ n ≤ m ∧ m * bytes ≤ 140737488355328)
          (some ⟨some (vO (.slc nid 0 n.toNat (.is m.toNat))), [], [.row true true (repeatL zero m.toNat)], []⟩)
      | _ => none
    | _ => none
  | .mnx mx x y => match env sl x with
    | some (.p (.o (.int k a))) => match env sl y with
      | some (.p (.o (.int k' b))) => needE (k = k') (match mx with
        | true => some (val1 (vI k (max a b)))
        | false => some (val1 (vI k (min a b))))
      | _ => none
    | _ => none
  | .call f args news => match envPs sl args with
    | some vs => callE call M nid f vs news
    | none => none
  | .callv x args news => match env sl x with
    | some (.p (.o (.fn f caps))) => match envPs sl args with
      | some vs => callE call M nid f (appP vs (capsV caps)) news
      | none => none
    | _ => none
def outE (d : Option Nat) (sl : Slots) (v : Option V) : Slots := match d, v with
  | none, _ => sl
  | some d, some v => (d, v) :: sl
  | some d, none => (d, .t []) :: sl
def memE (M : List Row) (nid : Nat) (e : Eff) : List Row := match e.wr, e.new with
  | [], [] => M
  | _, _ => app M e nid
def ftE (d : Bool) (ft : List (List Nat × List Nat)) (nid : Nat) (e : Eff) : List (List Nat × List Nat) := match d with
  | true => snoc ft (footOf e nid)
  | false => ft
theorem stepE_eq (d : Bool) (dst : Option Nat) (sl : Slots) (M : List Row) (ft : List (List Nat × List Nat)) (nid : Nat) (e : Eff) (K : Slots → List Row → List (List Nat × List Nat) → Prop) :
    stepW d dst sl M ft nid e K = K (outE dst sl e.val) (memE M nid e) (ftE d ft nid e) := by
  have h1 : ∀ K, memW M nid e K = K (memE M nid e) := fun K => by
    obtain ⟨ev, ew, en, ef⟩ := e
    cases ew <;> cases en <;> simp only [memW, memE, forceM_eq]
  have h2 : ∀ K, putW sl dst e.val K = K (outE dst sl e.val) := fun K => by
    unfold putW outE; cases dst <;> cases e.val <;> rfl
  unfold stepW
  rw [h1, h2]
  cases d <;> rfl
def opsE (call : CallE) (d : Bool) (base : Nat) : List VOper → Slots → List Row → List (List Nat × List Nat) → Option (Slots × List Row × List (List Nat × List Nat))
  | [], sl, M, ft => some (sl, M, ft)
  | o :: os, sl, M, ft => match o.guard with
    | none => match opE call (look sl) M (base + o.off) o.op with
      | some e => opsE call d base os (outE o.dst sl e.val) (memE M (base + o.off) e) (ftE d ft (base + o.off) e)
      | none => none
    | some (g, want) => match look sl g with
      | some (.p (.o (.bool b))) => match b, want with
        | true, true => match opE call (look ((g, vB true) :: sl)) M (base + o.off) o.op with
          | some e => opsE call d base os (outE o.dst ((g, vB true) :: sl) e.val) (memE M (base + o.off) e) (ftE d ft (base + o.off) e)
          | none => none
        | true, false => opsE call d base os (outE o.dst ((g, vB true) :: sl) none) M (ftE d ft 0 ⟨none, [], [], []⟩)
        | false, false => match opE call (look ((g, vB false) :: sl)) M (base + o.off) o.op with
          | some e => opsE call d base os (outE o.dst ((g, vB false) :: sl) e.val) (memE M (base + o.off) e) (ftE d ft (base + o.off) e)
          | none => none
        | false, true => opsE call d base os (outE o.dst ((g, vB false) :: sl) none) M (ftE d ft 0 ⟨none, [], [], []⟩)
      | some (.t []) => opsE call d base os (outE o.dst sl none) M (ftE d ft 0 ⟨none, [], [], []⟩)
      | _ => none
def trimE (sl : Slots) : List Nat → Slots
  | [] => []
  | t :: ts => match look sl t with
    | some v => (t, v) :: trimE sl ts
    | none => trimE sl ts
theorem trimW_eq (sl : Slots) : ∀ (ts : List Nat) (K : Slots → Prop), trimW sl ts K = K (trimE sl ts)
  | [], K => rfl
  | t :: ts, K => by
    simp only [trimW, trimE]
    cases look sl t with
    | none => exact trimW_eq sl ts K
    | some v => exact trimW_eq sl ts _
def gcE (m : Nat) (keep : List Nat) (sl : Slots) (M : List Row) : Option (Slots × List Row) :=
  match trimE sl keep with
  | sl => match reach M fuel (idsRows M (range0 0 m) ++ idsSl sl) (range0 0 m) with
    | ids => match okIds M (range0 0 m ++ idsSl sl) ids with
      | true => some (renSl (fun b => idx b ids) sl, rowsAt M (fun b => idx b ids) ids)
      | false => none
theorem gcE_sound {P : Program} {m : Nat} {keep : List Nat} {sl sl' : Slots} {M M' : List Row} {K : Slots → List Row → Prop} (h : gcE m keep sl M = some (sl', M')) (k : K sl' M') : gcW ⟨P, m, keep⟩ sl M K := by
  unfold gcE at h
  simp only at h
  split at h
  · rename_i hk
    cases h
    unfold gcW
    rw [trimW_eq, forceNL_eq]
    exact ⟨hk, by rw [forceSl_eq, forceM_eq]; exact k⟩
  · cases h
abbrev OutE := Option (Ex × Slots × List Row)
def loopE (m : Nat) (keep : List Nat) (body : Slots → List Row → OutE) : Nat → Slots → List Row → OutE
  | 0, _, _ => none
  | n + 1, sl, M => match body sl M with
    | some (.normal, sl', M') => match gcE m keep sl' M' with
      | some (sl2, M2) => loopE m keep body n sl2 M2
      | none => none
    | r => r
def gotoE (m : Nat) (keep : List Nat) (l : Nat) (body : Slots → List Row → OutE) : Nat → Slots → List Row → OutE
  | 0, _, _ => none
  | n + 1, sl, M => match body sl M with
    | some (.goto i, sl', M') => match Nat.beq i l with
      | true => match gcE m keep sl' M' with
        | some (sl2, M2) => gotoE m keep l body n sl2 M2
        | none => none
      | false => none
    | r => r
def codeE (call : CallE) (n m : Nat) (keep : List Nat) : VCode → Slots → List Row → OutE
  | .skip, sl, M => some (.normal, sl, M)
  | .label _, sl, M => some (.normal, sl, M)
  | .exit id, sl, M => some (.exit id, sl, M)
  | .goto l, sl, M => some (.goto l, sl, M)
  | .ret, sl, M => some (.ret, sl, M)
  | .seq a b, sl, M => match codeE call n m keep a sl M with
    | some (.normal, sl', M') => codeE call n m keep b sl' M'
    | r => r
  | .cond x a b, sl, M => match env (look sl) x with
    | some (.p (.o (.bool c))) => match c with
      | true => codeE call n m keep a sl M
      | false => codeE call n m keep b sl M
    | _ => none
  | .block id c, sl, M => match codeE call n m keep c sl M with
    | some (.exit i, sl', M') => match Nat.beq i id with
      | true => some (.normal, sl', M')
      | false => some (.exit i, sl', M')
    | r => r
  | .loop c, sl, M => match gcE m keep sl M with
    | some (sl1, M1) => loopE m keep (codeE call n m keep c) n sl1 M1
    | none => none
  | .scope l c rest, sl, M => match codeE call n m keep c sl M with
    | some (.goto i, sl', M') => match Nat.beq i l with
      | true => match gcE m keep sl' M' with
        | some (sl1, M1) => gotoE m keep l (codeE call n m keep rest) n sl1 M1
        | none => none
      | false => none
    | r => r
  | .reg ops tot none, sl, M => match opsE call false (lenR M) ops (trimE sl keep) (appR M (deads tot)) [] with
    | some (sl', M', _) => some (.normal, sl', M')
    | none => none
  | .reg ops tot (some pairs), sl, M => match opsE call true (lenR M) ops (trimE sl keep) (appR M (deads tot)) [] with
    | some (sl', M', ft) => match okPairs ft pairs with
      | true => some (.normal, sl', M')
      | false => none
    | none => none
def resE (sl : Slots) (M : List Row) : List VRes → Option (List PV)
  | [] => some []
  | .tmp t :: r => match look sl t with
    | some (.p x) => match resE sl M r with
      | some l => some (x :: l)
      | none => none
    | _ => none
  | .cell t none :: r => match look sl t with
    | some (.p (.o (.ptr b o))) => match rowAt M b with
      | .row _ _ l => match nth l o with
        | some s => match resE sl M r with
          | some l => some (.o s :: l)
          | none => none
        | none => none
      | .dead => none
    | _ => none
  | .cell t (some n) :: r => match look sl t with
    | some (.p (.o (.ptr b o))) => match rowAt M b with
      | .row _ _ l => match getN l o n with
        | some c => match resE sl M r with
          | some l => some (.a c :: l)
          | none => none
        | none => none
      | .dead => none
    | _ => none
def endE (m : Nat) (v : V) (M : List Row) : Option (V × List Row) :=
  match reach M fuel (idsRows M (range0 0 m) ++ v.ids) (range0 0 m) with
  | ids => match okIds M (range0 0 m ++ v.ids) ids with
    | true => some (v.ren (fun b => idx b ids), rowsAt M (fun b => idx b ids) ids)
    | false => none
def finE (fn : VFn) (m : Nat) : OutE → Option (V × List Row)
  | some (.normal, sl, M) => match resE sl M fn.res with
    | some l => endE m (oneV l) M
    | none => none
  | some (.ret, sl, M) => match resE sl M fn.res with
    | some l => endE m (oneV l) M
    | none => none
  | _ => none
def fnE (call : CallE) (n : Nat) (fn : VFn) (args : List PV) (M : List Row) : Option (V × List Row) :=
  finE fn (lenR M) (codeE call n (lenR M) fn.keep fn.code (slots0 0 args) M)
def tabAt : List (FuncId × VFn) → FuncId → Option VFn
  | [], _ => none
  | (k, v) :: l, f => match Nat.beq k f with
    | true => some v
    | false => tabAt l f
def execF (tab : List (FuncId × VFn)) (base : CallE) : Nat → CallE
  | 0, _, _, _ => none
  | n + 1, f, args, M => match base f args M with
    | some r => some r
    | none => match tabAt tab f with
      | none => none
      | some fn => match Nat.ble (lenI (args.map fun _ => 0)) fn.n with
        | true => fnE (execF tab base n) 4000 fn args M
        | false => none
/-! so it is -/
def CallOk (P : Program) (call : CallE) : Prop := ∀ f args M v M', call f args M = some (v, M') → Det P f args M v M'
theorem needE_s {p : Prop} [Decidable p] {a : Option Eff} {e : Eff} {A : Prop} (h : needE p a = some e) (k : a = some e → A) : Need p A := by
  unfold needE at h
  split at h
  · rename_i hp; exact ⟨hp, k h⟩
  · cases h
theorem testE_s {b : Bool} {x y : Option Eff} {e : Eff} {A B : Prop} (h : testE b x y = some e) (k : x = some e → A) (g : y = some e → B) : Test b A B :=
  ⟨fun hb => k (by subst hb; exact h), fun hb => g (by subst hb; exact h)⟩
theorem lookE_s {l : List SV} {i : Nat} {f : SV → Option Eff} {e : Eff} {K : SV → Prop} (h : lookE l i f = some e) (k : ∀ s, f s = some e → K s) : Look l i K := by
  unfold lookE at h
  split at h
  · rename_i s hs; exact ⟨s, hs, k s h⟩
  · cases h
theorem lookNE_s {l : List SV} {i n : Nat} {f : List SV → Option Eff} {e : Eff} {K : List SV → Prop} (h : lookNE l i n f = some e) (k : ∀ s, f s = some e → K s) : LookN l i n K := by
  unfold lookNE at h
  split at h
  · rename_i s hs; exact ⟨s, hs, k s h⟩
  · cases h
theorem bytesE_s {l : List SV} {f : List UInt8 → Option Eff} {e : Eff} {K : List UInt8 → Prop} (h : bytesE l f = some e) (k : ∀ s, f s = some e → K s) : BytesW l K := by
  unfold bytesE at h
  split at h
  · rename_i s hs; exact ⟨s, hs, k s h⟩
  · cases h
theorem arithE_s {q : IntKind} {x : Int} {f : Int → Option Eff} {e : Eff} {K : Int → Prop} (h : arithE q x f = some e) (k : ∀ c, f c = some e → K c) : Arith q x K := ⟨k _ h⟩
theorem kE_s {v : V} {e : Eff} {K : Eff → Prop} (h : kE v = some e) (k : K e) : K (val1 v) := by cases h; exact k
theorem some_s {x e : Eff} {K : Eff → Prop} (h : some x = some e) (k : K e) : K x := by cases h; exact k
theorem binE_s {op : BinOp} {a b : SV} {e : Eff} {K : Eff → Prop} (h : binE op a b = some e) (k : K e) : binW op (fun v => K (val1 v)) a b := by
  cases a <;> cases b <;> (try (cases h; done))
  all_goals cases op <;> (try (cases h; done))
  all_goals repeat' first
    | exact kE_s h k
    | (refine needE_s h fun h => ?_)
    | (refine arithE_s h fun c h => ?_)
theorem partsE_s {sl : Env} {e : Eff} {g : List SV → Option Eff} {K : List SV → Prop} (hk : ∀ l, g l = some e → K l) : ∀ (ps : List (Nat × Nat × VX)) (zero : List SV), partsE sl zero ps g = some e → withParts sl zero ps K
  | [], zero, h => by simp only [withParts, forceL_eq]; exact hk _ h
  | (off, size, x) :: r, zero, h => by
    simp only [partsE] at h
    simp only [withParts]
    split at h
    · rename_i s hx
      simp only [hx]
      split at h
      · rename_i h1 h2; simp only [h1, h2]; exact partsE_s hk r _ h
      · cases h
    · rename_i s hx
      simp only [hx]
      split at h
      · rename_i h1 h2; simp only [h1, h2]; exact partsE_s hk r _ h
      · cases h
    · cases h
theorem intOfE_s {sl : Env} {e : Eff} {f : Int → Option Eff} {K : Int → Prop} {x : Option VX} {d : Int} (h : intOfE sl x d f = some e) (k : ∀ n, f n = some e → K n) : intOfX sl x d K := by
  cases x with
  | none => exact k _ h
  | some x =>
    simp only [intOfE] at h
    simp only [intOfX]
    split at h
    · rename_i hx; simp only [hx]; exact k _ h
    · cases h
theorem callE_s {P : Program} {call : CallE} (hc : CallOk P call) {d : Bool} {M : List Row} {nid : Nat} {f : FuncId} {vs : List PV} {news : Nat} {e : Eff} {K : Eff → Prop} (h : callE call M nid f vs news = some e) (k : K e) : callW P d M nid f vs news K := by
  unfold callE at h
  simp only at h
  unfold callW
  rw [forceNL_eq]
  split at h
  · rename_i hok
    refine ⟨hok, ?_⟩
    rw [forcePL_eq, forceM_eq]
    split at h
    · rename_i v M' hcall
      split at h
      · rename_i hlen
        refine .det (hc _ _ _ _ _ hcall) ⟨hlen, ?_⟩
        rw [V.force_eq, forceM_eq]
        exact some_s h k
      · cases h
    · cases h
  · cases h
set_option maxHeartbeats 2000000 in
theorem opE_s {P : Program} {call : CallE} (hc : CallOk P call) {d : Bool} {sl : Env} {M : List Row} {nid : Nat} {e : Eff} {K : Eff → Prop} (k : K e) : ∀ {op : VOp}, opE call sl M nid op = some e → opW P d sl M nid op K := by
  intro op h
  cases op
  case eq t neg x y =>
    cases t <;> simp only [opE] at h <;> simp only [opW]
    all_goals repeat' first
      | exact some_s h k
      | (split at h <;> first | (cases h; done) | simp only [*])
  case ld ag x =>
    cases ag <;> simp only [opE] at h <;> simp only [opW]
    all_goals repeat' first
      | exact some_s h k
      | (refine lookE_s h fun s h => ?_; rw [SV.force_eq])
      | (refine lookNE_s h fun s h => ?_; rw [forceL_eq])
      | (split at h <;> first | (cases h; done) | simp only [*])
  case fld off ag x =>
    cases ag <;> simp only [opE] at h <;> simp only [opW]
    all_goals repeat' first
      | exact some_s h k
      | (refine lookE_s h fun s h => ?_; rw [SV.force_eq])
      | (refine lookNE_s h fun s h => ?_; rw [forceL_eq])
      | (split at h <;> first | (cases h; done) | simp only [*])
  case ixa n size ag x i =>
    cases ag <;> simp only [opE] at h <;> simp only [opW]
    all_goals repeat' first
      | exact some_s h k
      | (refine needE_s h fun h => ?_)
      | (refine lookE_s h fun s h => ?_; rw [SV.force_eq])
      | (refine lookNE_s h fun s h => ?_; rw [forceL_eq])
      | (split at h <;> first | (cases h; done) | simp only [*])
  case len b x =>
    cases b <;> simp only [opE] at h <;> simp only [opW]
    all_goals repeat' first
      | exact some_s h k
      | (split at h <;> first | (cases h; done) | simp only [*])
  case bld zero parts => exact partsE_s (fun l h => some_s h k) _ _ h
  case bsl n zero parts => exact partsE_s (fun l h => some_s h k) _ _ h
  all_goals simp only [opE] at h
  all_goals simp only [opW]
  all_goals repeat' first
    | (cases h; done)
    | exact some_s h k
    | exact binE_s h k
    | exact callE_s hc h k
    | (refine needE_s h fun h => ?_)
    | (refine testE_s h (fun h => ?_) (fun h => ?_))
    | (refine lookE_s h fun s h => ?_)
    | (refine lookNE_s h fun s h => ?_)
    | (refine bytesE_s h fun s h => ?_)
    | (refine arithE_s h fun c h => ?_)
    | (refine intOfE_s h fun c h => ?_)
    | (split at h <;> first | (cases h; done) | simp only [*])
theorem opsE_s {P : Program} {call : CallE} (hc : CallOk P call) {d : Bool} {base : Nat} : ∀ (os : List VOper) {sl sl' : Slots} {M M' : List Row} {ft ft' : List (List Nat × List Nat)} {K : Slots → List Row → List (List Nat × List Nat) → Prop},
    opsE call d base os sl M ft = some (sl', M', ft') → K sl' M' ft' → opsW P d base os sl M ft K
  | [], sl, sl', M, M', ft, ft', K, h, k => by cases h; exact k
  | o :: os, sl, sl', M, M', ft, ft', K, h, k => by
    simp only [opsE] at h
    simp only [opsW]
    split at h
    · rename_i hg
      simp only [hg]
      split at h
      · rename_i e he
        rw [forceN_eq]
        exact opE_s hc (by rw [stepE_eq]; exact opsE_s hc os h k) he
      · cases h
    · rename_i g want hg
      simp only [hg]
      split at h
      · rename_i b hb
        simp only [hb]
        split at h
        · refine .tt ?_
          split at h
          · rename_i e he
            simp only [forceN_eq]
            exact opE_s hc (by rw [stepE_eq]; exact opsE_s hc os h k) he
          · cases h
        · refine .tt ?_
          rw [stepE_eq]
          exact opsE_s hc os h k
        · refine .ff ?_
          split at h
          · rename_i e he
            simp only [forceN_eq]
            exact opE_s hc (by rw [stepE_eq]; exact opsE_s hc os h k) he
          · cases h
        · refine .ff ?_
          rw [stepE_eq]
          exact opsE_s hc os h k
      · rename_i hb
        simp only [hb]
        rw [stepE_eq]
        exact opsE_s hc os h k
      · cases h
theorem loopE_s {P : Program} {m : Nat} {keep : List Nat} {c : VCode} {body : Slots → List Row → OutE} {Q : Post}
    (hb : ∀ sl M ex sl' M', body sl M = some (ex, sl', M') → ∀ Q : Post, Q ex sl' M' → W ⟨P, m, keep⟩ c Q sl M) : ∀ (n : Nat) {sl : Slots} {M : List Row} {ex : Ex} {sl' : Slots} {M' : List Row}, loopE m keep body n sl M = some (ex, sl', M') → Q ex sl' M' →
    ∀ X : Slots → List Row → Prop, (∀ sl M, W ⟨P, m, keep⟩ c (thenW (fun sl M => gcW ⟨P, m, keep⟩ sl M X) Q) sl M → X sl M) → X sl M
  | 0, sl, M, ex, sl', M', h, k, X, hX => by cases h
  | n + 1, sl, M, ex, sl', M', h, k, X, hX => by
    simp only [loopE] at h
    split at h
    · rename_i sl1 M1 h1
      split at h
      · rename_i sl2 M2 h2
        refine hX _ _ (hb _ _ _ _ _ h1 _ ?_)
        exact gcE_sound h2 (loopE_s hb n h k X hX)
      · cases h
    · rename_i hne
      refine hX _ _ (hb _ _ _ _ _ h _ ?_)
      cases ex with
      | normal => exact (hne _ _ h).elim
      | _ => exact k
theorem gotoE_s {P : Program} {m l : Nat} {keep : List Nat} {c : VCode} {body : Slots → List Row → OutE} {Q : Post}
    (hb : ∀ sl M ex sl' M', body sl M = some (ex, sl', M') → ∀ Q : Post, Q ex sl' M' → W ⟨P, m, keep⟩ c Q sl M) : ∀ (n : Nat) {sl : Slots} {M : List Row} {ex : Ex} {sl' : Slots} {M' : List Row}, gotoE m keep l body n sl M = some (ex, sl', M') → Q ex sl' M' →
    ∀ X : Slots → List Row → Prop, (∀ sl M, W ⟨P, m, keep⟩ c (gotoW l (fun sl M => gcW ⟨P, m, keep⟩ sl M X) Q) sl M → X sl M) → X sl M
  | 0, sl, M, ex, sl', M', h, k, X, hX => by cases h
  | n + 1, sl, M, ex, sl', M', h, k, X, hX => by
    simp only [gotoE] at h
    split at h
    · rename_i i sl1 M1 h1
      split at h
      · rename_i hi
        split at h
        · rename_i sl2 M2 h2
          refine hX _ _ (hb _ _ _ _ _ h1 _ ?_)
          simp only [gotoW, hi]
          exact gcE_sound h2 (gotoE_s hb n h k X hX)
        · cases h
      · cases h
    · rename_i hne
      refine hX _ _ (hb _ _ _ _ _ h _ ?_)
      cases ex with
      | goto i => exact (hne _ _ _ h).elim
      | _ => exact k
theorem codeE_s {P : Program} {call : CallE} (hc : CallOk P call) {n m : Nat} {keep : List Nat} : ∀ (vc : VCode) (sl : Slots) (M : List Row) (ex : Ex) (sl' : Slots) (M' : List Row),
    codeE call n m keep vc sl M = some (ex, sl', M') → ∀ Q : Post, Q ex sl' M' → W ⟨P, m, keep⟩ vc Q sl M := by
  intro vc
  induction vc with
  | skip => intro sl M ex sl' M' h Q k; cases h; exact k
  | label l => intro sl M ex sl' M' h Q k; cases h; exact k
  | exit id => intro sl M ex sl' M' h Q k; cases h; exact k
  | goto l => intro sl M ex sl' M' h Q k; cases h; exact k
  | ret => intro sl M ex sl' M' h Q k; cases h; exact k
  | seq a b iha ihb =>
    intro sl M ex sl' M' h Q k
    simp only [codeE] at h
    simp only [W]
    split at h
    · rename_i sl1 M1 h1
      exact iha _ _ _ _ _ h1 _ (ihb _ _ _ _ _ h _ k)
    · rename_i hne
      refine iha _ _ _ _ _ h _ ?_
      cases ex with
      | normal => exact (hne _ _ h).elim
      | _ => exact k
  | cond x a b iha ihb =>
    intro sl M ex sl' M' h Q k
    simp only [codeE] at h
    simp only [W]
    split at h
    · rename_i c hx
      simp only [hx]
      cases c with
      | true => exact .tt (iha _ _ _ _ _ h _ k)
      | false => exact .ff (ihb _ _ _ _ _ h _ k)
    · cases h
  | block id c ih =>
    intro sl M ex sl' M' h Q k
    simp only [codeE] at h
    simp only [W]
    split at h
    · rename_i i sl1 M1 h1
      refine ih _ _ _ _ _ h1 _ ?_
      simp only [blockW]
      split at h
      · rename_i hi; cases h; simp only [hi]; exact k
      · rename_i hi; cases h; simp only [hi]; exact k
    · rename_i hne
      refine ih _ _ _ _ _ h _ ?_
      cases ex with
      | exit i => exact (hne _ _ _ h).elim
      | _ => exact k
  | loop c ih =>
    intro sl M ex sl' M' h Q k
    simp only [codeE] at h
    simp only [W]
    split at h
    · rename_i sl1 M1 h1
      exact gcE_sound h1 ⟨fun X hX => loopE_s ih n h k X hX⟩
    · cases h
  | scope l c r ihc ihr =>
    intro sl M ex sl' M' h Q k
    simp only [codeE] at h
    simp only [W]
    split at h
    · rename_i i sl1 M1 h1
      refine ihc _ _ _ _ _ h1 _ ?_
      simp only [gotoW]
      split at h
      · rename_i hi
        simp only [hi]
        split at h
        · rename_i sl2 M2 h2
          exact gcE_sound h2 ⟨fun X hX => gotoE_s ihr n h k X hX⟩
        · cases h
      · cases h
    · rename_i hne
      refine ihc _ _ _ _ _ h _ ?_
      cases ex with
      | goto i => exact (hne _ _ _ h).elim
      | _ => exact k
  | reg ops tot pairs =>
    intro sl M ex sl' M' h Q k
    cases pairs with
    | none =>
      simp only [codeE] at h
      simp only [W]
      rw [trimW_eq, forceN_eq, forceM_eq]
      split at h
      · rename_i sl1 M1 ft h1
        cases h
        exact opsE_s hc ops h1 k
      · cases h
    | some ps =>
      simp only [codeE] at h
      simp only [W]
      rw [trimW_eq, forceN_eq, forceM_eq]
      split at h
      · rename_i sl1 M1 ft h1
        split at h
        · rename_i hp
          cases h
          exact opsE_s hc ops h1 ⟨hp, k⟩
        · cases h
      · cases h
theorem resE_s {sl : Slots} {M : List Row} : ∀ (rs : List VRes) {l : List PV} {K : List PV → Prop}, resE sl M rs = some l → K l → resW sl M rs K
  | [], l, K, h, k => by cases h; exact k
  | .tmp t :: r, l, K, h, k => by
    simp only [resE] at h
    simp only [resW]
    split at h
    · rename_i x hx
      simp only [hx]
      split at h
      · rename_i l' hl; cases h; exact resE_s r hl k
      · cases h
    · cases h
  | .cell t none :: r, l, K, h, k => by
    simp only [resE] at h
    simp only [resW]
    split at h
    · rename_i b o hx
      simp only [hx]
      split at h
      · rename_i hr
        simp only [hr]
        split at h
        · rename_i s hs
          refine ⟨s, hs, ?_⟩
          rw [SV.force_eq]
          split at h
          · rename_i l' hl; cases h; exact resE_s r hl k
          · cases h
        · cases h
      · cases h
    · cases h
  | .cell t (some n) :: r, l, K, h, k => by
    simp only [resE] at h
    simp only [resW]
    split at h
    · rename_i b o hx
      simp only [hx]
      split at h
      · rename_i hr
        simp only [hr]
        split at h
        · rename_i s hs
          refine ⟨s, hs, ?_⟩
          rw [forceL_eq]
          split at h
          · rename_i l' hl; cases h; exact resE_s r hl k
          · cases h
        · cases h
      · cases h
    · cases h
theorem endE_s {m : Nat} {v v' : V} {M M' : List Row} {R : V → List Row → Prop} (h : endE m v M = some (v', M')) (k : R v' M') : endW m v M R := by
  unfold endE at h
  simp only at h
  unfold endW
  rw [forceNL_eq]
  split at h
  · rename_i hok
    cases h
    exact ⟨hok, by rw [V.force_eq, forceM_eq]; exact ⟨k⟩⟩
  · cases h
theorem fnE_s {P : Program} {call : CallE} (hc : CallOk P call) {n : Nat} {fn : VFn} {args : List PV} {M M' : List Row} {v : V} {R : V → List Row → Prop} (h : fnE call n fn args M = some (v, M')) (k : R v M') : FnW P fn args M R := by
  unfold fnE at h
  unfold FnW
  rw [forceN_eq]
  cases hcode : codeE call n (lenR M) fn.keep fn.code (slots0 0 args) M with
  | none => rw [hcode] at h; cases h
  | some r =>
    obtain ⟨ex, sl, M1⟩ := r
    rw [hcode] at h
    refine codeE_s hc _ _ _ _ _ _ hcode _ ?_
    cases ex with
    | normal =>
      simp only [finE] at h
      split at h
      · rename_i l hl; exact resE_s _ hl (endE_s h k)
      · cases h
    | ret =>
      simp only [finE] at h
      split at h
      · rename_i l hl; exact resE_s _ hl (endE_s h k)
      · cases h
    | exit i => cases h
    | goto i => cases h
def FnOk (P : Program) (f : FuncId) (fn : VFn) : Prop := ∀ args M R, args.length ≤ fn.n → FnW P fn args M R → Can P f args M R
def TabOk (P : Program) : List (FuncId × VFn) → Prop
  | [] => True
  | (f, fn) :: l => FnOk P f fn ∧ TabOk P l
theorem tabAt_ok {P : Program} : ∀ {l : List (FuncId × VFn)} {f : FuncId} {fn : VFn}, TabOk P l → tabAt l f = some fn → FnOk P f fn
  | [], f, fn, h, e => by cases e
  | (k, v) :: l, f, fn, h, e => by
    simp only [tabAt] at e
    split at e
    · rename_i hk; cases e; rw [← Nat.eq_of_beq_eq_true hk]; exact h.1
    · exact tabAt_ok h.2 e
theorem fnOk_of {P : Program} {eqs : List Nat} {news : FuncId → Nat} (hk : Known P eqs) (hmix : P.follows .mixedOrders = true) {f : FuncId} {fn : Func} {vf : VFn} {keep : List Nat} (hf : P.funcs[f]? = some fn) (hn : (fn.name == "runtime.NumGoroutine") = false)
    (hc : cFn P eqs news keep fn = some vf) : FnOk P f vf := fun args M R ha h => can_of_W hk hmix hf hn hc ha h
theorem lenI_map (l : List PV) : lenI (l.map fun _ => 0) = l.length := by induction l with
  | nil => rfl
  | cons x l ih => simp only [List.map_cons, lenI, ih, List.length_cons]
theorem execF_s {P : Program} {tab : List (FuncId × VFn)} {base : CallE} (ht : TabOk P tab) (hb : CallOk P base) : ∀ n, CallOk P (execF tab base n)
  | 0 => fun f args M v M' h => by cases h
  | n + 1 => fun f args M v M' h => by
    simp only [execF] at h
    split at h
    · rename_i hr; cases h; exact hb _ _ _ _ _ hr
    · split at h
      · cases h
      · rename_i fn hfn
        split at h
        · rename_i hle
          have hle' := Nat.le_of_ble_eq_true hle
          rw [lenI_map] at hle'
          exact tabAt_ok ht hfn _ _ _ hle' (fnE_s (execF_s ht hb n) h ⟨rfl, rfl⟩)
        · cases h
end Go.Proofs.Ytnmeeafnobfobaa.VM
