/- The evaluator: operations and code. -/
import Derived.Test.YtmdfkggflainbaaVmA
namespace Go.Proofs.Ytmdfkggflainbaa.VM
open Go.RowKit
set_option linter.unusedVariables false

abbrev val1 (v : V) : Eff := ⟨some v, [], [], []⟩
abbrev vI (k : IntKind) (n : Int) : V := .p (.o (.int k n))
abbrev vB (b : Bool) : V := .p (.o (.bool b))
abbrev vS (s : ByteArray) : V := .p (.o (.str s))
abbrev vO (s : SV) : V := .p (.o s)
def bAt (s : ByteArray) (k : Nat) : Int := ((s.data.toList[k]?.getD 0).toNat : Int)
def bytesSV : List UInt8 → List SV
  | [] => []
  | b :: l => .int .u8 b.toNat :: bytesSV l
def cellsOf : V → Option (List SV)
  | .p (.o s) => some [s]
  | .p (.a l) => some l
  | .t _ => none
def withParts (sl : Env) (zero : List SV) : List (Nat × Nat × VX) → (List SV → Prop) → Prop
  | [], K => forceL zero K
  | (off, size, x) :: r, K => match env sl x with
    | some (.p (.o s)) => match Nat.beq size 1, Nat.ble (off + 1) (lenS zero) with
      | true, true => withParts sl (setN zero off [s]) r K
      | _, _ => False
    | some (.p (.a l)) => match Nat.beq size (lenS l), Nat.ble (off + size) (lenS zero) with
      | true, true => withParts sl (setN zero off l) r K
      | _, _ => False
    | _ => False
def intOfX (sl : Env) : Option VX → Int → (Int → Prop) → Prop
  | none, d, K => K d
  | some x, _, K => match env sl x with
    | some (.p (.o (.int _ n))) => K n
    | _ => False
def envPs (sl : Env) : List VX → Option (List PV)
  | [] => some []
  | x :: r => match env sl x with
    | some (.p p) => match envPs sl r with
      | some l => some (p :: l)
      | none => none
    | _ => none
def envCaps (sl : Env) : List VX → Option (List (Nat × Nat))
  | [] => some []
  | x :: r => match env sl x with
    | some (.p (.o (.ptr b o))) => match envCaps sl r with
      | some l => some ((b, o) :: l)
      | none => none
    | _ => none
def capsV : List (Nat × Nat) → List PV
  | [] => []
  | (b, o) :: l => .o (.ptr b o) :: capsV l
def appP : List PV → List PV → List PV
  | [], m => m
  | x :: l, m => x :: appP l m
def takeR : List Row → Nat → List Row
  | _, 0 => []
  | [], _ + 1 => []
  | r :: l, n + 1 => r :: takeR l n
def outB (nid news : Nat) : List Nat → Bool
  | [] => true
  | b :: l => (Nat.ble (b + 1) nid || Nat.ble (nid + news) b) && outB nid news l
def fuel : Nat := 200
/-- What a call has written: where it may be made ahead of others or behind them (d), rows that are as they were may be left out. -/
structure WrT (M : List Row) (z : List (Nat × Row)) (K : List (Nat × Row) → Prop) : Prop where
  ex : K z ∨ ((∀ p, p ∈ z → rowAt M p.1 = p.2) ∧ K [])
def sameW (M : List Row) : List (Nat × Row) → Prop
  | [] => True
  | (b, r) :: z => rowAt M b = r ∧ sameW M z
theorem WrT.all {M : List Row} {z : List (Nat × Row)} {K : List (Nat × Row) → Prop} (h : K z) : WrT M z K := ⟨.inl h⟩
theorem WrT.same {M : List Row} {z : List (Nat × Row)} {K : List (Nat × Row) → Prop} (h : sameW M z) (g : K []) : WrT M z K := by
  refine ⟨.inr ⟨?_, g⟩⟩
  induction z with
  | nil => intro p hp; cases hp
  | cons x z ih =>
    intro p hp
    rcases List.mem_cons.1 hp with rfl | hp
    · exact h.1
    · exact ih h.2 p hp
def wrW (d : Bool) (M : List Row) (z : List (Nat × Row)) (K : List (Nat × Row) → Prop) : Prop := match d with
  | true => WrT M z K
  | false => K z
theorem wrW_ex {d : Bool} {M : List Row} {z : List (Nat × Row)} {K : List (Nat × Row) → Prop} (h : wrW d M z K) : K z ∨ ((∀ p, p ∈ z → rowAt M p.1 = p.2) ∧ K []) := by
  cases d with
  | true => exact h.ex
  | false => exact .inl h
theorem setRow_at : ∀ (M : List Row) (b : Nat), setRow M b (rowAt M b) = M
  | [], _ => rfl
  | r :: l, 0 => rfl
  | r :: l, n + 1 => by simp only [setRow, rowAt, setRow_at l n]
theorem setRows_same {M : List Row} : ∀ {z n : List (Nat × Row)}, (∀ p, p ∈ z → rowAt M p.1 = p.2) → setRows M (z ++ n) = setRows M n
  | [], _, _ => rfl
  | (b, r) :: z, n, h => by
    have e : rowAt M b = r := h (b, r) (by simp)
    simp only [List.cons_append, setRows]
    rw [← e, setRow_at]
    exact setRows_same fun p hp => h p (by simp [hp])
/-- A call: what is handed over by new names, and what comes back by ours. -/
def callG (d : Bool) (S : List PV → List Row → (V → List Row → Prop) → Prop) (M : List Row) (nid : Nat) (vs : List PV) (news : Nat) (K : Eff → Prop) : Prop :=
  forceNL (reach M fuel (idsPL vs) []) fun ids =>
  Need ((okIds M (idsPL vs) ids && outB nid news ids) = true)
    (forcePL (renPL (fun b => idx b ids) vs) fun xs =>
     forceM (rowsAt M (fun b => idx b ids) ids) fun Mc =>
     S xs Mc fun v M' =>
      Need ((Nat.ble (lenI ids) (lenR M') && Nat.ble (lenR M') (lenI ids + news)) = true)
       ((v.ren (back ids nid)).force fun v =>
        forceM (renRows (back ids nid) M') fun M' =>
        wrW d M (zipIds ids M') fun z =>
        K ⟨some v, z, dropRows M' (lenI ids), ids⟩))
def callW (G : Ground) (P : Program) (d : Bool) (M : List Row) (nid : Nat) (f : FuncId) (vs : List PV) (news : Nat) (K : Eff → Prop) : Prop :=
  callG d (fun xs Mc k => CallW G P d f xs Mc k) M nid vs news K
def mres (ok : Bool) (zero : PV) (r : Option PV) : V := match ok, r with
  | true, some v => .t [v, .o (.bool true)]
  | true, none => .t [zero, .o (.bool false)]
  | false, some v => .p v
  | false, none => .p zero
def shl (n : Int) (k : IntKind) : Int := 2 ^ (min n.toNat k.bits)
def binW (op : BinOp) (K : V → Prop) : SV → SV → Prop
  | .int k a, .int k' b => match op with
    | .shl => Need (0 ≤ b) (Arith k (a * 2 ^ (min b.toNat k.bits)) fun c => K (vI k c))
    | .shr => Need (0 ≤ b) (K (vI k (a.fdiv (2 ^ (min b.toNat k.bits)))))
    | .add => Need (k = k') (Arith k (a + b) fun c => K (vI k c))
    | .sub => Need (k = k') (Arith k (a - b) fun c => K (vI k c))
    | .mul => Need (k = k') (Arith k (a * b) fun c => K (vI k c))
    | .quo => Need (k = k' ∧ b ≠ 0) (Arith k (a.tdiv b) fun c => K (vI k c))
    | .rem => Need (k = k' ∧ b ≠ 0) (K (vI k (a.tmod b)))
    | .and => Need (k = k') (Arith k (BitVec.ofInt k.bits a &&& BitVec.ofInt k.bits b).toNat fun c => K (vI k c))
    | .or => Need (k = k') (Arith k (BitVec.ofInt k.bits a ||| BitVec.ofInt k.bits b).toNat fun c => K (vI k c))
    | .xor => Need (k = k') (Arith k (BitVec.ofInt k.bits a ^^^ BitVec.ofInt k.bits b).toNat fun c => K (vI k c))
    | .andNot => Need (k = k') (Arith k (BitVec.ofInt k.bits a &&& ~~~(BitVec.ofInt k.bits b)).toNat fun c => K (vI k c))
    | .eql => Need (k = k') (K (vB (a == b)))
    | .neq => Need (k = k') (K (vB (a != b)))
    | .lss => Need (k = k') (K (vB (decide (a < b))))
    | .leq => Need (k = k') (K (vB (decide (a ≤ b))))
    | .gtr => Need (k = k') (K (vB (decide (a > b))))
    | .geq => Need (k = k') (K (vB (decide (a ≥ b))))
  | .str x, .str y => match op with
    | .add => Need (x.size + y.size ≤ 9223372036854775807) (K (vS (x ++ y)))
    | .eql => K (vB (x.toList == y.toList))
    | .neq => K (vB (!(x.toList == y.toList)))
    | .lss => K (vB (Op.bytesLess x.toList y.toList))
    | .leq => K (vB (Op.bytesLess x.toList y.toList || x.toList == y.toList))
    | .gtr => K (vB (!(Op.bytesLess x.toList y.toList || x.toList == y.toList)))
    | .geq => K (vB (!(Op.bytesLess x.toList y.toList)))
    | _ => False
  | _, _ => False
def isNil : Nat → SV → Option Bool
  | 0, .nilp => some true
  | 0, .ptr _ _ => some false
  | 1, .nils => some true
  | 1, .slc _ _ _ _ => some false
  | 2, .nilfn => some true
  | 2, .fn _ _ => some false
  | 3, .nilm => some true
  | 3, .mp _ => some false
  | _, _ => none
def negB (neg : Bool) (b : Bool) : Bool := match neg with
  | true => !b
  | false => b
def opW (G : Ground) (P : Program) (d : Bool) (sl : Env) (M : List Row) (nid : Nat) : VOp → (Eff → Prop) → Prop
  | .mv x, K => match env sl x with
    | some v => K (val1 v)
    | none => False
  | .pick c a b, K => match env sl c with
    | some (.p (.o (.bool c))) => Test c (match env sl a with
        | some v => K (val1 v)
        | none => False) (match env sl b with
        | some v => K (val1 v)
        | none => False)
    | _ => False
  | .new l, K => K ⟨some (vO (.ptr nid 0)), [], [.row true false l], []⟩
  | .box x, K => match env sl x with
    | some (.p (.o s)) => K ⟨some (vO (.ptr nid 0)), [], [.row true false [s]], []⟩
    | some (.p (.a l)) => K ⟨some (vO (.ptr nid 0)), [], [.row true false l], []⟩
    | _ => False
  | .bld zero parts, K => withParts sl zero parts fun l => K (val1 (.p (.a l)))
  | .bsl n zero parts, K => withParts sl zero parts fun l => K ⟨some (vO (.slc nid 0 n (.is n))), [], [.row true false l], []⟩
  | .ld none x, K => match env sl x with
    | some (.p (.o (.ptr b o))) => match rowAt M b with
      | .row _ _ l => Look l o fun s => s.force fun s => K ⟨some (vO s), [], [], [b]⟩
      | _ => False
    | some (.p (.o (.gp b o))) => LookG G b o fun s => K (val1 (vO s))
    | _ => False
  | .ld (some n) x, K => match env sl x with
    | some (.p (.o (.ptr b o))) => match rowAt M b with
      | .row _ _ l => LookN l o n fun c => forceL c fun c => K ⟨some (.p (.a c)), [], [], [b]⟩
      | _ => False
    | _ => False
  | .st size x v, K => match env sl x with
    | some (.p (.o (.ptr b o))) => match rowAt M b with
      | .row true sym l => match env sl v with
        | some v => match cellsOf v with
          | some c => Need (lenS c = size) (Need (o + size ≤ lenS l) (Need (sym = true → allFlat c = true) (K ⟨none, [(b, .row true sym (setN l o c))], [], [b]⟩)))
          | none => False
        | none => False
      | _ => False
    | _ => False
  | .nilc x, K => match env sl x with
    | some (.p (.o (.ptr b o))) => K (val1 (vO (.ptr b o)))
    | some (.p (.o (.fn f c))) => K (val1 (vO (.fn f c)))
    | _ => False
  | .bin op x y, K => match env sl x with
    | some (.p (.o a)) => match env sl y with
      | some (.p (.o b)) => binW op (fun v => K (val1 v)) a b
      | _ => False
    | _ => False
  | .eq .bool neg x y, K => match env sl x with
    | some (.p (.o (.bool a))) => match env sl y with
      | some (.p (.o (.bool b))) => K (val1 (vB (negB neg (a == b))))
      | _ => False
    | _ => False
  | .eq (.flat ks) neg x y, K => match env sl x with
    | some (.p (.a a)) => match env sl y with
      | some (.p (.a b)) => match eqCells ks a b with
        | some c => K (val1 (vB (negB neg c)))
        | none => False
      | _ => False
    | _ => False
  | .eq (.ref k) neg x y, K => match env sl x with
    | some (.p (.o a)) => match env sl y with
      | some (.p (.o b)) => match isNil k a, isNil k b with
        | some true, some c => K (val1 (vB (negB neg c)))
        | some false, some true => K (val1 (vB (negB neg false)))
        | _, _ => False
      | _ => False
    | _ => False
  | .un op x, K => match op, env sl x with
    | .not, some (.p (.o (.bool b))) => K (val1 (vB !b))
    | .neg, some (.p (.o (.int k n))) => Arith k (0 - n) fun c => K (val1 (vI k c))
    | .xor, some (.p (.o (.int k n))) => Arith k (BitVec.ofInt k.bits (if k.signed then -1 else k.max) ^^^ BitVec.ofInt k.bits n).toNat fun c => K (val1 (vI k c))
    | _, _ => False
  | .cvi k x, K => match env sl x with
    | some (.p (.o (.int _ n))) => Arith k n fun c => K (val1 (vI k c))
    | _ => False
  | .cvs x, K => match env sl x with
    | some (.p (.o (.str s))) => K (val1 (vS s))
    | _ => False
  | .s2b x, K => match env sl x with
    | some (.p (.o (.str s))) => K ⟨some (vO (.slc nid 0 s.size (.upto 1))), [], [.row true true (bytesSV s.data.toList)], []⟩
    | _ => False
  | .b2s x, K => match env sl x with
    | some (.p (.o .nils)) => K (val1 (vS ⟨#[]⟩))
    | some (.p (.o (.slc b o n _))) => match rowAt M b with
      | .row _ _ l => LookN l o n fun c => BytesW c fun bs => K ⟨some (vS ⟨bs.toArray⟩), [], [], [b]⟩
      | _ => False
    | _ => False
  | .mkf f caps, K => match envCaps sl caps with
    | some cs => K (val1 (vO (.fn f cs)))
    | none => False
  | .sls x lo hi, K => match env sl x with
    | some (.p (.o (.str s))) => intOfX sl lo 0 fun l => intOfX sl hi s.size fun h => Need (0 ≤ l ∧ l ≤ h ∧ h ≤ s.size) (K (val1 (vS (s.extract l.toNat h.toNat))))
    | _ => False
  | .sll size x lo hi, K => match env sl x with
    | some (.p (.o (.slc b o n c))) => intOfX sl lo 0 fun l => intOfX sl hi n fun h => Need (0 ≤ l ∧ l ≤ h ∧ h ≤ n)
        (match c with
         | .is m => K (val1 (vO (.slc b (o + l.toNat * size) (h.toNat - l.toNat) (.is (m - l.toNat)))))
         | .upto z => Need (z = size) (K (val1 (vO (.slc b (o + l.toNat * size) (h.toNat - l.toNat) (.upto z))))))
    | some (.p (.o .nils)) => intOfX sl lo 0 fun l => intOfX sl hi 0 fun h => Need (l = 0 ∧ h = 0) (K (val1 (vO .nils)))
    | _ => False
  | .sla n size x lo hi, K => match env sl x with
    | some (.p (.o (.ptr b o))) => intOfX sl lo 0 fun l => intOfX sl hi n fun h => Need (0 ≤ l ∧ l ≤ h ∧ h ≤ n)
        (K (val1 (vO (.slc b (o + l.toNat * size) (h.toNat - l.toNat) (.is (n - l.toNat))))))
    | _ => False
  | .fad off x, K => match env sl x with
    | some (.p (.o (.ptr b o))) => K (val1 (vO (.ptr b (o + off))))
    | _ => False
  | .fld off none x, K => match env sl x with
    | some (.p (.a l)) => Look l off fun s => s.force fun s => K (val1 (vO s))
    | _ => False
  | .fld off (some n) x, K => match env sl x with
    | some (.p (.a l)) => LookN l off n fun c => forceL c fun c => K (val1 (.p (.a c)))
    | _ => False
  | .iad size x i, K => match env sl x with
    | some (.p (.o (.slc b o n _))) => match env sl i with
      | some (.p (.o (.int _ i))) => Need (0 ≤ i ∧ i < n) (K (val1 (vO (.ptr b (o + i.toNat * size)))))
      | _ => False
    | _ => False
  | .iaa n size x i, K => match env sl x with
    | some (.p (.o (.ptr b o))) => match env sl i with
      | some (.p (.o (.int _ i))) => Need (0 ≤ i ∧ i < n) (K (val1 (vO (.ptr b (o + i.toNat * size)))))
      | _ => False
    | some (.p (.o (.gp b o))) => match env sl i with
      | some (.p (.o (.int _ i))) => Need (0 ≤ i ∧ i < n) (K (val1 (vO (.gp b (o + i.toNat * size)))))
      | _ => False
    | _ => False
  | .ixs x i, K => match env sl x with
    | some (.p (.o (.str s))) => match env sl i with
      | some (.p (.o (.int _ i))) => Need (0 ≤ i ∧ i < s.size) (K (val1 (vI .u8 (bAt s i.toNat))))
      | _ => False
    | _ => False
  | .ixa n size none x i, K => match env sl x with
    | some (.p (.a l)) => match env sl i with
      | some (.p (.o (.int _ i))) => Need (0 ≤ i ∧ i < n) (Look l (i.toNat * size) fun s => s.force fun s => K (val1 (vO s)))
      | _ => False
    | _ => False
  | .ixa n size (some z) x i, K => match env sl x with
    | some (.p (.a l)) => match env sl i with
      | some (.p (.o (.int _ i))) => Need (0 ≤ i ∧ i < n) (LookN l (i.toNat * size) z fun c => forceL c fun c => K (val1 (.p (.a c))))
      | _ => False
    | _ => False
  | .ext i x, K => match env sl x with
    | some (.t l) => match l[i]? with
      | some y => K (val1 (.p y))
      | none => False
    | _ => False
  | .len false x, K => match env sl x with
    | some (.p (.o (.str s))) => K (val1 (vI .i64 s.size))
    | _ => False
  | .len true x, K => match env sl x with
    | some (.p (.o (.slc _ _ n _))) => K (val1 (vI .i64 n))
    | some (.p (.o .nils)) => K (val1 (vI .i64 0))
    | _ => False
  | .lenc n, K => K (val1 (vI .i64 n))
  | .app size bytes x y, K => match env sl y with
    | some (.p (.o (.slc b2 o2 n2 _))) => match rowAt M b2 with
      | .row _ sym2 l2 => LookN l2 o2 (n2 * size) fun c2 => match env sl x with
        | some (.p (.o .nils)) => Need (0 < n2 ∧ n2 * bytes ≤ 140737488355328) (K ⟨some (vO (.slc nid 0 n2 (.upto size))), [], [.row true (sym2 || allFlat c2) c2], [b2]⟩)
        | some (.p (.o (.slc b o n c))) => match rowAt M b with
          | .row rw sym l => match c with
            | .is m => Need ((n + n2) * bytes ≤ 140737488355328) (Test (decide (n + n2 ≤ m))
                (Need (rw = true ∧ o + n * size + n2 * size ≤ lenS l ∧ (sym = true → allFlat c2 = true))
                  (K ⟨some (vO (.slc b o (n + n2) (.is m))), [(b, .row rw sym (setN l (o + n * size) c2))], [], [b, b2]⟩))
                (LookN l o (n * size) fun c1 => K ⟨some (vO (.slc nid 0 (n + n2) (.upto size))), [], [.row true ((sym || allFlat c1) && (sym2 || allFlat c2)) (c1 ++ c2)], [b, b2]⟩))
            | .upto z => Need (z = size ∧ rw = true ∧ o + n * size = lenS l ∧ (n + n2) * bytes ≤ 140737488355328)
                (K ⟨some (vO (.slc nid 0 (n + n2) (.upto size))), [(b, .dead)], [.row true ((sym || allFlat (dropN l o)) && (sym2 || allFlat c2)) (dropN l o ++ c2)], [b, b2]⟩)
          | _ => False
        | _ => False
      | _ => False
    | some (.p (.o .nils)) => match env sl x with
      | some (.p (.o .nils)) => K (val1 (vO .nils))
      | some (.p (.o (.slc b o n c))) => K (val1 (vO (.slc b o n c)))
      | _ => False
    | _ => False
  | .apps x y, K => False
  | .mks size bytes zero n m, K => match env sl n with
    | some (.p (.o (.int _ n))) => match env sl m with
      | some (.p (.o (.int _ m))) => Need (0 ≤ n ∧ n ≤ m ∧ m * bytes ≤ 140737488355328)
          (K ⟨some (vO (.slc nid 0 n.toNat (.is m.toNat))), [], [.row true true (repeatL zero m.toNat)], []⟩)
      | _ => False
    | _ => False
  | .mnx mx x y, K => match env sl x with
    | some (.p (.o (.int k a))) => match env sl y with
      | some (.p (.o (.int k' b))) => Need (k = k') (match mx with
        | true => K (val1 (vI k (max a b)))
        | false => K (val1 (vI k (min a b))))
      | _ => False
    | _ => False
  | .call f args news, K => match envPs sl args with
    | some vs => callW G P d M nid f vs news K
    | none => False
  | .callv x args news, K => match env sl x with
    | some (.p (.o (.fn f caps))) => match envPs sl args with
      | some vs => callW G P d M nid f (appP vs (capsV caps)) news K
      | none => False
    | some (.p (.o (.yl b))) => match d, envPs sl args with
      | false, some vs => callG false (fun xs Mc k => YldW G P xs Mc k) M nid (.o (.yl b) :: vs) news K
      | true, some vs => callG true (fun xs Mc k => YldD G P xs Mc k) M nid (.o (.yl b) :: vs) news K
      | _, none => False
    | _ => False
  | .cpy size x y, K => match env sl x with
    | some (.p (.o (.slc b o n _))) => match rowAt M b with
      | .row true sym l => match env sl y with
        | some (.p (.o (.slc b2 o2 n2 _))) => match rowAt M b2 with
          | .row _ sym2 l2 => Test (decide (n2 ≤ n))
              (LookN l2 o2 (n2 * size) fun c => Need (o + n2 * size ≤ lenS l ∧ (sym = true → allFlat c = true)) (K ⟨some (vI .i64 n2), [(b, .row true sym (setN l o c))], [], [b, b2]⟩))
              (LookN l2 o2 (n * size) fun c => Need (o + n * size ≤ lenS l ∧ (sym = true → allFlat c = true)) (K ⟨some (vI .i64 n), [(b, .row true sym (setN l o c))], [], [b, b2]⟩))
          | _ => False
        | _ => False
      | _ => False
    | _ => False
  | .clr zero x, K => match env sl x with
    | some (.p (.o (.slc b o n _))) => match rowAt M b with
      | .row true sym l => Need (o + n * lenS zero ≤ lenS l) (K ⟨some (.t []), [(b, .row true sym (setN l o (repeatL zero n)))], [], [b]⟩)
      | _ => False
    | some (.p (.o .nils)) => K ⟨some (.t []), [], [], []⟩
    | _ => False
  | .sl3 size x lo hi mx, K => match env sl x with
    | some (.p (.o (.slc b o n c))) => intOfX sl lo 0 fun l => intOfX sl hi n fun h => intOfX sl mx n fun m => Need (0 ≤ l ∧ l ≤ h ∧ h ≤ m ∧ m ≤ n)
        (K (val1 (vO (.slc b (o + l.toNat * size) (h.toNat - l.toNat) (.is (m.toNat - l.toNat))))))
    | some (.p (.o .nils)) => intOfX sl lo 0 fun l => intOfX sl hi 0 fun h => intOfX sl mx 0 fun m => Need (l = 0 ∧ h = 0 ∧ m = 0) (K (val1 (vO .nils)))
    | _ => False
  | .mkm false, K => K ⟨some (vO (.mp nid)), [], [.map [] 0], []⟩
  | .mkm true, K => K ⟨some (vO (.mp nid)), [], [.mapv [] 0], []⟩
  | .mget q ks zero ok x k, K => match env sl x with
    | some (.p (.o .nilm)) => match env sl k with
      | some (.p k) => Need (keyOk q ks k = true) (K (val1 (mres ok zero none)))
      | _ => False
    | some (.p (.o (.mp b))) => match rowAt M b with
      | .map es _ => match env sl k with
        | some (.p k) => Need (keyOk q ks k = true) (LookM q ks es k fun r => (mres ok zero r).force fun v => K ⟨some v, [], [], [b]⟩)
        | _ => False
      | .mapv es _ => match env sl k with
        | some (.p k) => Need (keyOk q ks k = true) (LookM q ks es k fun r => (mres ok zero r).force fun v => K ⟨some v, [], [], [b]⟩)
        | _ => False
      | _ => False
    | _ => False
  | .mset q ks x k v, K => match env sl x with
    | some (.p (.o (.mp b))) => match rowAt M b with
      | .map es c => match env sl k with
        | some (.p k) => match env sl v with
          | some (.p v) => Need ((keyOk q ks k && flatP v) = true) (PutM q ks es c k v fun es' c' => K ⟨none, [(b, .map es' c')], [], [b]⟩)
          | _ => False
        | _ => False
      | .mapv es c => match env sl k with
        | some (.p k) => match env sl v with
          | some (.p v) => Need (keyOk q ks k = true) (PutM q ks es c k v fun es' c' => K ⟨none, [(b, .mapv es' c')], [], [b]⟩)
          | _ => False
        | _ => False
      | _ => False
    | _ => False
  | .mdel q ks x k, K => match env sl x with
    | some (.p (.o (.mp b))) => match rowAt M b with
      | .map es c => match env sl k with
        | some (.p k) => Need (keyOk q ks k = true) (DropM q ks es k fun es' => K ⟨some (.t []), [(b, .map es' c)], [], [b]⟩)
        | _ => False
      | .mapv es c => match env sl k with
        | some (.p k) => Need (keyOk q ks k = true) (DropM q ks es k fun es' => K ⟨some (.t []), [(b, .mapv es' c)], [], [b]⟩)
        | _ => False
      | _ => False
    | _ => False
  | .mlen x, K => match env sl x with
    | some (.p (.o .nilm)) => K (val1 (vI .i64 0))
    | some (.p (.o (.mp b))) => match rowAt M b with
      | .map es _ => K ⟨some (vI .i64 es.length), [], [], [b]⟩
      | .mapv es _ => K ⟨some (vI .i64 es.length), [], [], [b]⟩
      | _ => False
    | _ => False
  | .rng x, K => match env sl x with
    | some (.p (.o .nilm)) => K ⟨some (vO (.ptr nid 0)), [], [.iter0], []⟩
    | some (.p (.o (.mp b))) => match rowAt M b with
      | .map _ c => K ⟨some (vO (.ptr nid 0)), [], [.iter b c [] c], [b]⟩
      | _ => False
    | _ => False
  | .nxt x, K => match d, env sl x with
    | false, some (.p (.o (.ptr i o))) => match o, rowAt M i with
      | 0, .iter0 => K ⟨some (.t [.o (.bool false)]), [], [], [i]⟩
      | 0, .iter b since seen st => match rowAt M b with
        | .map es c => NextM es since seen st fun r => match r with
          | none => K ⟨some (.t [.o (.bool false)]), [], [], [i, b]⟩
          | some e => K ⟨some (.t [.o (.bool true), e.key, e.val]), [(i, .iter b since (seen ++ [e.born]) c)], [], [i, b]⟩
        | _ => False
      | _, _ => False
    | _, _ => False
  | .ent x, K => match env sl x with
    | some (.p (.o (.ptr i 0))) => match rowAt M i with
      | .iter b since seen st => match rowAt M b with
        | .map es c => EntM es c seen st fun e => K ⟨some (.t [e.key, e.val]), [], [], [i, b]⟩
        | _ => False
      | _ => False
    | _ => False
  | .mki t x, K => match env sl x with
    | some (.p (.o (.int k n))) => K (val1 (vO (.ifi t k n)))
    | _ => False
  | .ifn neg x, K => match env sl x with
    | some (.p (.o .nili)) => K (val1 (vB (negB neg true)))
    | some (.p (.o (.ifi _ _ _))) => K (val1 (vB (negB neg false)))
    | _ => False
  | .bad, K => False
def indepB (a b : List Nat × List Nat) : Bool := noneIn a.2 b.1 && (noneIn b.2 a.1 && noneIn a.2 b.2)
where noneIn : List Nat → List Nat → Bool
  | [], _ => true
  | x :: l, m => !mem x m && noneIn l m
def getF : List (List Nat × List Nat) → Nat → List Nat × List Nat
  | [], _ => ([], [])
  | x :: _, 0 => x
  | _ :: l, n + 1 => getF l n
def okPairs (ft : List (List Nat × List Nat)) : List (Nat × Nat) → Bool
  | [] => true
  | (i, j) :: l => indepB (getF ft i) (getF ft j) && okPairs ft l
def idsOfWr : List (Nat × Row) → List Nat
  | [] => []
  | (b, _) :: l => b :: idsOfWr l
def footOf (e : Eff) (nid : Nat) : List Nat × List Nat := (e.foot, idsOfWr (e.wr ++ numbered nid e.new))
def memW (M : List Row) (nid : Nat) (e : Eff) (K : List Row → Prop) : Prop := match e.wr, e.new with
  | [], [] => K M
  | _, _ => forceM (app M e nid) K
def putW (sl : Slots) (d : Option Nat) (v : Option V) (K : Slots → Prop) : Prop := match d, v with
  | none, _ => K sl
  | some d, some v => K ((d, v) :: sl)
  | some d, none => K ((d, .t []) :: sl)
def stepW (d : Bool) (dst : Option Nat) (sl : Slots) (M : List Row) (ft : List (List Nat × List Nat)) (nid : Nat) (e : Eff) (K : Slots → List Row → List (List Nat × List Nat) → Prop) : Prop :=
  memW M nid e fun M => putW sl dst e.val fun sl => match d with
    | true => K sl M (snoc ft (footOf e nid))
    | false => K sl M ft
def opsW (G : Ground) (P : Program) (d : Bool) (base : Nat) : List VOper → Slots → List Row → List (List Nat × List Nat) → (Slots → List Row → List (List Nat × List Nat) → Prop) → Prop
  | [], sl, M, ft, K => K sl M ft
  | o :: os, sl, M, ft, K => match o.guard with
    | none => forceN (base + o.off) fun nid => opW G P d (look sl) M nid o.op fun e => stepW d o.dst sl M ft nid e fun sl M ft => opsW G P d base os sl M ft K
    | some (g, want) => match look sl g with
      | some (.p (.o (.bool b))) => Test b
          (match want with
           | true => forceN (base + o.off) fun nid => opW G P d (look ((g, vB true) :: sl)) M nid o.op fun e => stepW d o.dst ((g, vB true) :: sl) M ft nid e fun sl M ft => opsW G P d base os sl M ft K
           | false => stepW d o.dst ((g, vB true) :: sl) M ft 0 ⟨none, [], [], []⟩ fun sl M ft => opsW G P d base os sl M ft K)
          (match want with
           | false => forceN (base + o.off) fun nid => opW G P d (look ((g, vB false) :: sl)) M nid o.op fun e => stepW d o.dst ((g, vB false) :: sl) M ft nid e fun sl M ft => opsW G P d base os sl M ft K
           | true => stepW d o.dst ((g, vB false) :: sl) M ft 0 ⟨none, [], [], []⟩ fun sl M ft => opsW G P d base os sl M ft K)
      | some (.t []) => stepW d o.dst sl M ft 0 ⟨none, [], [], []⟩ fun sl M ft => opsW G P d base os sl M ft K
      | _ => False
def trimW (sl : Slots) : List Nat → (Slots → Prop) → Prop
  | [], K => K []
  | t :: ts, K => match look sl t with
    | some v => trimW sl ts fun r => K ((t, v) :: r)
    | none => trimW sl ts K
def deads : Nat → List Row
  | 0 => []
  | n + 1 => .dead :: deads n
def appR : List Row → List Row → List Row
  | [], m => m
  | r :: l, m => r :: appR l m
def range0 : Nat → Nat → List Nat
  | _, 0 => []
  | a, n + 1 => a :: range0 (a + 1) n
def idsRows (M : List Row) : List Nat → List Nat
  | [] => []
  | b :: l => (rowAt M b).ids ++ idsRows M l
structure Cx where
  G : Ground
  P : Program
  m : Nat
  keep : List Nat
  n : Nat
  top : Bool
/-- At a loop's head slots may be forgotten. -/
structure DropW (sl : Slots) (K : Slots → Prop) : Prop where
  ex : ∃ sl', (∀ t v, look sl' t = some v → look sl t = some v) ∧ K sl'
theorem DropW.keep {sl : Slots} {K : Slots → Prop} (h : K sl) : DropW sl K := ⟨sl, fun _ _ h => h, h⟩
def memT (n : Nat) : List Nat → Bool
  | [] => false
  | k :: l => match Nat.beq n k with
    | true => true
    | false => memT n l
def dropS (ts : List Nat) : Slots → Slots
  | [] => []
  | (k, v) :: r => match memT k ts with
    | true => dropS ts r
    | false => (k, v) :: dropS ts r
theorem dropS_mem {ts : List Nat} : ∀ {sl : Slots} {t : Nat} {v : V}, look (dropS ts sl) t = some v → memT t ts = false ∧ look sl t = some v
  | [], t, v, h => by simp [dropS, look] at h
  | (k, x) :: r, t, v, h => by
    simp only [dropS] at h
    cases hm : memT k ts with
    | true =>
      rw [hm] at h
      obtain ⟨h1, h2⟩ := dropS_mem h
      refine ⟨h1, ?_⟩
      simp only [look]
      cases hb : Nat.beq k t with
      | true => have := Nat.eq_of_beq_eq_true hb; subst this; rw [hm] at h1; cases h1
      | false => exact h2
    | false =>
      rw [hm] at h
      simp only [look] at h ⊢
      cases hb : Nat.beq k t with
      | true => rw [hb] at h; have := Nat.eq_of_beq_eq_true hb; subst this; exact ⟨hm, h⟩
      | false => rw [hb] at h; exact dropS_mem h
theorem DropW.to (ts : List Nat) {sl : Slots} {K : Slots → Prop} (h : K (dropS ts sl)) : DropW sl K := ⟨_, fun _ _ h => (dropS_mem h).2, h⟩
/-- The state anew: the kept slots, and the rows that they and the first m rows name. -/
def gcW (cx : Cx) (sl : Slots) (M : List Row) (K : Slots → List Row → Prop) : Prop :=
  trimW sl cx.keep fun sl => DropW sl fun sl => forceSl sl fun sl =>
  forceNL (reach M fuel (idsRows M (range0 0 cx.m) ++ idsSl sl) (range0 0 cx.m)) fun ids =>
  Need (okIds M (range0 0 cx.m ++ idsSl sl) ids = true)
   (forceSl (renSl (fun b => idx b ids) sl) fun sl' =>
    forceM (rowsAt M (fun b => idx b ids) ids) fun M' =>
    K sl' M')
abbrev Post := Ex → Slots → List Row → Prop
def thenW (K : Slots → List Row → Prop) (Q : Post) : Post
  | .normal, sl, M => K sl M
  | e, sl, M => Q e sl M
def blockW (id : Nat) (Q : Post) : Post
  | .exit i, sl, M => match Nat.beq i id with
    | true => Q .normal sl M
    | false => Q (.exit i) sl M
  | e, sl, M => Q e sl M
def gotoW (l : Nat) (K : Slots → List Row → Prop) (Q : Post) : Post
  | .goto i, sl, M => match Nat.beq i l with
    | true => K sl M
    | false => False
  | e, sl, M => Q e sl M
/-- The least X that is so. -/
structure LoopW (body : (Slots → List Row → Prop) → Slots → List Row → Prop) (sl : Slots) (M : List Row) : Prop where
  run : ∀ X : Slots → List Row → Prop, (∀ sl M, body X sl M → X sl M) → X sl M
/-- A loop's record turns from ready to busy, or from busy to what it is behind a round. -/
def busyW (M : List Row) (b : Nat) (K : List Row → Prop) : Prop := match rowAt M b with
  | .loop n keep sl ps asg body .ready => forceM (setRow M b (.loop n keep sl ps asg body .busy)) K
  | _ => False
def doneW (M : List Row) (b : Nat) (st : LS) (K : List Row → Prop) : Prop := match rowAt M b with
  | .loop n keep sl ps asg body .busy => forceM (setRow M b (.loop n keep sl ps asg body st)) K
  | _ => False
def newsR : Nat := 4
def W (cx : Cx) : VCode → Post → Slots → List Row → Prop
  | .skip, Q, sl, M => Q .normal sl M
  | .label _, Q, sl, M => Q .normal sl M
  | .exit id, Q, sl, M => Q (.exit id) sl M
  | .goto l, Q, sl, M => Q (.goto l) sl M
  | .ret, Q, sl, M => Q .ret sl M
  | .seq a b, Q, sl, M => W cx a (thenW (fun sl M => W cx b Q sl M) Q) sl M
  | .cond x a b, Q, sl, M => match env (look sl) x with
    | some (.p (.o (.bool c))) => Test c (W cx a Q sl M) (W cx b Q sl M)
    | _ => False
  | .block id c, Q, sl, M => W cx c (blockW id Q) sl M
  | .loop c, Q, sl, M => gcW cx sl M (LoopW fun X sl M => W cx c (thenW (fun sl M => gcW cx sl M X) Q) sl M)
  | .scope l c rest, Q, sl, M => match cx.top with
    | true => W cx c (gotoW l (fun sl M => gcW cx sl M (LoopW fun X sl M => W cx rest (gotoW l (fun sl M => gcW cx sl M X) Q) sl M)) Q) sl M
    | false => False
  | .rangeF f ps asg body, Q, sl, M => match cx.top with
    | true => trimW sl cx.keep fun sl => match env (look sl) f with
      | some (.p (.o (.fn g caps))) => forceN (lenR M) fun b => forceM (appR M (.loop cx.n cx.keep sl ps asg body .ready :: deads newsR)) fun M => forceN (b + 1) fun nid =>
          callW cx.G cx.P false M nid g (.o (.yl b) :: capsV caps) newsR fun e => forceM (app M e nid) fun M => match rowAt M b with
            | .loop _ _ _ _ _ _ .ready => forceM (setRow M b .dead) fun M => Q .normal sl M
            | .loop _ _ _ _ _ _ (.done ex) => forceM (setRow M b .dead) fun M => Q ex sl M
            | _ => False
      | _ => False
    | false => False
  | .reg ops tot none, Q, sl, M => trimW sl cx.keep fun sl => forceN (lenR M) fun base => forceM (appR M (deads tot)) fun M =>
      opsW cx.G cx.P false base ops sl M [] fun sl M _ => Q .normal sl M
  | .reg ops tot (some pairs), Q, sl, M => trimW sl cx.keep fun sl => forceN (lenR M) fun base => forceM (appR M (deads tot)) fun M =>
      opsW cx.G cx.P true base ops sl M [] fun sl M ft => Need (okPairs ft pairs = true) (Q .normal sl M)
inductive VRes where
  | tmp (t : Nat)
  | cell (t : Nat) (agg : Option Nat)
def resW (sl : Slots) (M : List Row) : List VRes → (List PV → Prop) → Prop
  | [], K => K []
  | .tmp t :: r, K => match look sl t with
    | some (.p x) => resW sl M r fun l => K (x :: l)
    | _ => False
  | .cell t none :: r, K => match look sl t with
    | some (.p (.o (.ptr b o))) => match rowAt M b with
      | .row _ _ l => Look l o fun s => s.force fun s => resW sl M r fun l => K (.o s :: l)
      | _ => False
    | _ => False
  | .cell t (some n) :: r, K => match look sl t with
    | some (.p (.o (.ptr b o))) => match rowAt M b with
      | .row _ _ l => LookN l o n fun c => forceL c fun c => resW sl M r fun l => K (.a c :: l)
      | _ => False
    | _ => False
def oneV : List PV → V
  | [x] => .p x
  | l => .t l
structure VFn where
  code : VCode
  res : List VRes
  n : Nat
  keep : List Nat
section
variable (P : Program) (eqs : List Nat)
def cRes : List ResultVar → Option (List VRes)
  | [] => some []
  | .tmp t :: r => match cRes r with
    | some l => some (.tmp t :: l)
    | none => none
  | .cell t ty :: r => match aggT P ty, cRes r with
    | some a, some l => some (.cell t a :: l)
    | _, _ => none
def cFn (news : FuncId → Nat) (keep : List Nat) (fn : Func) : Option VFn := match fn.body with
  | some c => match cCode P eqs news fn.ntmps c, cRes P fn.results.toList with
    | some c, some r => some ⟨c, r, fn.ntmps, keep⟩
    | _, _ => none
  | none => none
end
def slots0 (k : Nat) : List PV → Slots
  | [] => []
  | x :: l => (k, .p x) :: slots0 (k + 1) l
structure Ends (v : V) (M : List Row) (R : V → List Row → Prop) : Prop where
  out : R v M
def endW (m : Nat) (v : V) (M : List Row) (R : V → List Row → Prop) : Prop :=
  forceNL (reach M fuel (idsRows M (range0 0 m) ++ v.ids) (range0 0 m)) fun ids =>
  Need (okIds M (range0 0 m ++ v.ids) ids = true)
   ((v.ren (fun b => idx b ids)).force fun v =>
    forceM (rowsAt M (fun b => idx b ids) ids) fun M' =>
    Ends v M' R)
def retW (fn : VFn) (m : Nat) (R : V → List Row → Prop) : Post
  | .normal, sl, M => resW sl M fn.res fun l => endW m (oneV l) M R
  | .ret, sl, M => resW sl M fn.res fun l => endW m (oneV l) M R
  | _, _, _ => False
def FnW (G : Ground) (P : Program) (fn : VFn) (args : List PV) (M : List Row) (R : V → List Row → Prop) : Prop :=
  forceN (lenR M) fun m => W ⟨G, P, m, fn.keep, fn.n, true⟩ fn.code (retW fn m R) (slots0 0 args) M
/-- A round of a loop over a function. -/
def bindS : List Nat → List PV → Slots → Slots
  | t :: ts, v :: vs, sl => bindS ts vs ((t, .p v) :: sl)
  | _, _, sl => sl
def rndEnd (m b : Nat) (R : V → List Row → Prop) : Post
  | .normal, _, M => doneW M b .ready fun M => endW m (vB true) M R
  | .exit id, _, M => doneW M b (.done (.exit id)) fun M => endW m (vB false) M R
  | .goto l, _, M => doneW M b (.done (.goto l)) fun M => endW m (vB false) M R
  | .ret, _, M => doneW M b (.done .ret) fun M => endW m (vB false) M R
def onlyN (K : Slots → List Row → Prop) : Post
  | .normal, sl, M => K sl M
  | _, _, _ => False
def RndW (G : Ground) (P : Program) (args : List PV) (M : List Row) (R : V → List Row → Prop) : Prop := match args with
  | .o (.yl b) :: vs => match rowAt M b with
    | .loop n keep sl ps asg body .ready => Need (ps.length = vs.length) (forceN (lenR M) fun m => W ⟨G, P, m, keep, n, false⟩ asg
        (onlyN fun sl M => busyW M b fun M => W ⟨G, P, m, keep, n, false⟩ body (rndEnd m b R) sl M) (bindS ps vs sl) M)
    | _ => False
  | _ => False
end Go.Proofs.Ytmdfkggflainbaa.VM
