/- The evaluator: operations and code. -/
import Derived.Test.YtnmeeafnobfobaaVmA
namespace Go.Proofs.Ytnmeeafnobfobaa.VM
open Go.RowKit
set_option linter.unusedVariables false

/-- What two values of an equality are. -/
inductive CK where
  | int (k : IntKind)
  | bool
  | str
inductive EqT where
  | bool
  | ref (k : Nat)      -- against nil: 0 pointers, 1 slices, 2 functions
  | flat (ks : List CK)     -- structs of ints, bools, strings
inductive VOp where
  | mv (x : VX)
  | pick (c a b : VX)
  | new (l : List SV)
  | box (x : VX)
  | bld (zero : List SV) (parts : List (Nat × Nat × VX))
  | bsl (len : Nat) (zero : List SV) (parts : List (Nat × Nat × VX))
  | ld (agg : Option Nat) (x : VX)
  | st (size : Nat) (x v : VX)
  | nilc (x : VX)
  | bin (op : BinOp) (x y : VX)
  | eq (k : EqT) (neg : Bool) (x y : VX)
  | un (op : UnOp) (x : VX)
  | cvi (k : IntKind) (x : VX)
  | cvs (x : VX)
  | s2b (x : VX)
  | b2s (x : VX)
  | mkf (f : FuncId) (caps : List VX)
  | sls (x : VX) (lo hi : Option VX)
  | sll (size : Nat) (x : VX) (lo hi : Option VX)
  | sla (n size : Nat) (x : VX) (lo hi : Option VX)
  | fad (off : Nat) (x : VX)
  | fld (off : Nat) (agg : Option Nat) (x : VX)
  | iad (size : Nat) (x i : VX)
  | iaa (n size : Nat) (x i : VX)
  | ixs (x i : VX)
  | ixa (n size : Nat) (agg : Option Nat) (x i : VX)
  | ext (i : Nat) (x : VX)
  | len (sl : Bool) (x : VX)
  | lenc (n : Nat)
  | app (size bytes : Nat) (x y : VX)
  | apps (x y : VX)
  | mks (size bytes : Nat) (zero : List SV) (len cap : VX)
  | mnx (max : Bool) (x y : VX)
  | call (f : FuncId) (args : List VX) (news : Nat)
  | callv (x : VX) (args : List VX) (news : Nat)
structure VOper where
  dst : Option Nat
  op : VOp
  guard : Option (Nat × Bool)
  off : Nat
inductive VCode where
  | skip
  | reg (ops : List VOper) (tot : Nat) (pairs : Option (List (Nat × Nat)))
  | seq (a b : VCode)
  | cond (x : VX) (a b : VCode)
  | block (id : Nat) (c : VCode)
  | loop (c : VCode)
  | scope (l : Nat) (c rest : VCode)
  | label (l : Nat)
  | exit (id : Nat)
  | goto (l : Nat)
  | ret

abbrev val1 (v : V) : Eff := ⟨some v, [], [], []⟩
abbrev vI (k : IntKind) (n : Int) : V := .p (.o (.int k n))
abbrev vB (b : Bool) : V := .p (.o (.bool b))
abbrev vS (s : ByteArray) : V := .p (.o (.str s))
abbrev vO (s : SV) : V := .p (.o s)
def repeatL (l : List SV) : Nat → List SV
  | 0 => []
  | n + 1 => l ++ repeatL l n
def bAt (s : ByteArray) (k : Nat) : Int := ((s.data.toList[k]?.getD 0).toNat : Int)
def bytesSV : List UInt8 → List SV
  | [] => []
  | b :: l => .int .u8 b.toNat :: bytesSV l
def cellsOf : V → Option (List SV)
  | .p (.o s) => some [s]
  | .p (.a l) => some l
  | .t _ => none
def withParts (sl : Env) (zero : List SV) : List (Nat × Nat × VX) → (List SV → Prop) → Prop
  | [], K => forceL zero K
  | (off, size, x) :: r, K => match env sl x with
    | some (.p (.o s)) => match Nat.beq size 1, Nat.ble (off + 1) (lenS zero) with
      | true, true => withParts sl (setN zero off [s]) r K
      | _, _ => False
    | some (.p (.a l)) => match Nat.beq size (lenS l), Nat.ble (off + size) (lenS zero) with
      | true, true => withParts sl (setN zero off l) r K
      | _, _ => False
    | _ => False
def intOfX (sl : Env) : Option VX → Int → (Int → Prop) → Prop
  | none, d, K => K d
  | some x, _, K => match env sl x with
    | some (.p (.o (.int _ n))) => K n
    | _ => False
def envPs (sl : Env) : List VX → Option (List PV)
  | [] => some []
  | x :: r => match env sl x with
    | some (.p p) => match envPs sl r with
      | some l => some (p :: l)
      | none => none
    | _ => none
def envCaps (sl : Env) : List VX → Option (List (Nat × Nat))
  | [] => some []
  | x :: r => match env sl x with
    | some (.p (.o (.ptr b o))) => match envCaps sl r with
      | some l => some ((b, o) :: l)
      | none => none
    | _ => none
def capsV : List (Nat × Nat) → List PV
  | [] => []
  | (b, o) :: l => .o (.ptr b o) :: capsV l
def appP : List PV → List PV → List PV
  | [], m => m
  | x :: l, m => x :: appP l m
def allFlat : List SV → Bool
  | [] => true
  | s :: l => match s.flat with
    | true => allFlat l
    | false => false
def takeR : List Row → Nat → List Row
  | _, 0 => []
  | [], _ + 1 => []
  | r :: l, n + 1 => r :: takeR l n
def outB (nid news : Nat) : List Nat → Bool
  | [] => true
  | b :: l => (Nat.ble (b + 1) nid || Nat.ble (nid + news) b) && outB nid news l
def fuel : Nat := 200
def callW (P : Program) (d : Bool) (M : List Row) (nid : Nat) (f : FuncId) (vs : List PV) (news : Nat) (K : Eff → Prop) : Prop :=
  forceNL (reach M fuel (idsPL vs) []) fun ids =>
  Need ((okIds M (idsPL vs) ids && outB nid news ids) = true)
    (forcePL (renPL (fun b => idx b ids) vs) fun as =>
     forceM (rowsAt M (fun b => idx b ids) ids) fun Mc =>
     CallW P d f as Mc fun v M' =>
      Need ((Nat.ble (lenI ids) (lenR M') && Nat.ble (lenR M') (lenI ids + news)) = true)
       ((v.ren (back ids nid)).force fun v =>
        forceM (renRows (back ids nid) M') fun M' =>
        K ⟨some v, zipIds ids M', dropRows M' (lenI ids), ids⟩))
def shl (n : Int) (k : IntKind) : Int := 2 ^ (min n.toNat k.bits)
def binW (op : BinOp) (K : V → Prop) : SV → SV → Prop
  | .int k a, .int k' b => match op with
    | .shl => Need (0 ≤ b) (Arith k (a * 2 ^ (min b.toNat k.bits)) fun c => K (vI k c))
    | .shr => Need (0 ≤ b) (K (vI k (a.fdiv (2 ^ (min b.toNat k.bits)))))
    | .add => Need (k = k') (Arith k (a + b) fun c => K (vI k c))
    | .sub => Need (k = k') (Arith k (a - b) fun c => K (vI k c))
    | .mul => Need (k = k') (Arith k (a * b) fun c => K (vI k c))
    | .quo => Need (k = k' ∧ b ≠ 0) (Arith k (a.tdiv b) fun c => K (vI k c))
    | .rem => Need (k = k' ∧ b ≠ 0) (K (vI k (a.tmod b)))
    | .and => Need (k = k') (Arith k (BitVec.ofInt k.bits a &&& BitVec.ofInt k.bits b).toNat fun c => K (vI k c))
    | .or => Need (k = k') (Arith k (BitVec.ofInt k.bits a ||| BitVec.ofInt k.bits b).toNat fun c => K (vI k c))
    | .xor => Need (k = k') (Arith k (BitVec.ofInt k.bits a ^^^ BitVec.ofInt k.bits b).toNat fun c => K (vI k c))
    | .andNot => Need (k = k') (Arith k (BitVec.ofInt k.bits a &&& ~~~(BitVec.ofInt k.bits b)).toNat fun c => K (vI k c))
    | .eql => Need (k = k') (K (vB (a == b)))
    | .neq => Need (k = k') (K (vB (a != b)))
    | .lss => Need (k = k') (K (vB (decide (a < b))))
    | .leq => Need (k = k') (K (vB (decide (a ≤ b))))
    | .gtr => Need (k = k') (K (vB (decide (a > b))))
    | .geq => Need (k = k') (K (vB (decide (a ≥ b))))
  | .str x, .str y => match op with
    | .add => Need (x.size + y.size ≤ 9223372036854775807) (K (vS (x ++ y)))
    | .eql => K (vB (x.toList == y.toList))
    | .neq => K (vB (!(x.toList == y.toList)))
    | .lss => K (vB (Op.bytesLess x.toList y.toList))
    | .leq => K (vB (Op.bytesLess x.toList y.toList || x.toList == y.toList))
    | .gtr => K (vB (!(Op.bytesLess x.toList y.toList || x.toList == y.toList)))
    | .geq => K (vB (!(Op.bytesLess x.toList y.toList)))
    | _ => False
  | _, _ => False
/-- Are the cells the same? none: cells of another kind. -/
def eqCells : List CK → List SV → List SV → Option Bool
  | [], [], [] => some true
  | .int q :: ks, .int k a :: l, .int k' b :: m => match decide (k = q), decide (k' = q), eqCells ks l m with
    | true, true, some c => some ((a == b) && c)
    | _, _, _ => none
  | .bool :: ks, .bool a :: l, .bool b :: m => match eqCells ks l m with
    | some c => some ((a == b) && c)
    | none => none
  | .str :: ks, .str a :: l, .str b :: m => match eqCells ks l m with
    | some c => some ((a.toList == b.toList) && c)
    | none => none
  | _, _, _ => none
def isNil : Nat → SV → Option Bool
  | 0, .nilp => some true
  | 0, .ptr _ _ => some false
  | 1, .nils => some true
  | 1, .slc _ _ _ _ => some false
  | 2, .nilfn => some true
  | 2, .fn _ _ => some false
  | _, _ => none
def negB (neg : Bool) (b : Bool) : Bool := match neg with
  | true => !b
  | false => b
def opW (P : Program) (d : Bool) (sl : Env) (M : List Row) (nid : Nat) : VOp → (Eff → Prop) → Prop
  | .mv x, K => match env sl x with
    | some v => K (val1 v)
    | none => False
  | .pick c a b, K => match env sl c with
    | some (.p (.o (.bool c))) => Test c (match env sl a with
        | some v => K (val1 v)
        | none => False) (match env sl b with
        | some v => K (val1 v)
        | none => False)
    | _ => False
  | .new l, K => K ⟨some (vO (.ptr nid 0)), [], [.row true false l], []⟩
  | .box x, K => match env sl x with
    | some (.p (.o s)) => K ⟨some (vO (.ptr nid 0)), [], [.row true false [s]], []⟩
    | some (.p (.a l)) => K ⟨some (vO (.ptr nid 0)), [], [.row true false l], []⟩
    | _ => False
  | .bld zero parts, K => withParts sl zero parts fun l => K (val1 (.p (.a l)))
  | .bsl n zero parts, K => withParts sl zero parts fun l => K ⟨some (vO (.slc nid 0 n (.is n))), [], [.row true false l], []⟩
  | .ld none x, K => match env sl x with
    | some (.p (.o (.ptr b o))) => match rowAt M b with
      | .row _ _ l => Look l o fun s => s.force fun s => K ⟨some (vO s), [], [], [b]⟩
      | .dead => False
    | _ => False
  | .ld (some n) x, K => match env sl x with
    | some (.p (.o (.ptr b o))) => match rowAt M b with
      | .row _ _ l => LookN l o n fun c => forceL c fun c => K ⟨some (.p (.a c)), [], [], [b]⟩
      | .dead => False
    | _ => False
  | .st size x v, K => match env sl x with
    | some (.p (.o (.ptr b o))) => match rowAt M b with
      | .row true sym l => match env sl v with
        | some v => match cellsOf v with
          | some c => Need (lenS c = size) (Need (o + size ≤ lenS l) (Need (sym = true → allFlat c = true) (K ⟨none, [(b, .row true sym (setN l o c))], [], [b]⟩)))
          | none => False
        | none => False
      | _ => False
    | _ => False
  | .nilc x, K => match env sl x with
    | some (.p (.o (.ptr b o))) => K (val1 (vO (.ptr b o)))
    | some (.p (.o (.fn f c))) => K (val1 (vO (.fn f c)))
    | _ => False
  | .bin op x y, K => match env sl x with
    | some (.p (.o a)) => match env sl y with
      | some (.p (.o b)) => binW op (fun v => K (val1 v)) a b
      | _ => False
    | _ => False
  | .eq .bool neg x y, K => match env sl x with
    | some (.p (.o (.bool a))) => match env sl y with
      | some (.p (.o (.bool b))) => K (val1 (vB (negB neg (a == b))))
      | _ => False
    | _ => False
  | .eq (.flat ks) neg x y, K => match env sl x with
    | some (.p (.a a)) => match env sl y with
      | some (.p (.a b)) => match eqCells ks a b with
        | some c => K (val1 (vB (negB neg c)))
        | none => False
      | _ => False
    | _ => False
  | .eq (.ref k) neg x y, K => match env sl x with
    | some (.p (.o a)) => match env sl y with
      | some (.p (.o b)) => match isNil k a, isNil k b with
        | some true, some c => K (val1 (vB (negB neg c)))
        | some false, some true => K (val1 (vB (negB neg false)))
        | _, _ => False
      | _ => False
    | _ => False
  | .un op x, K => match op, env sl x with
    | .not, some (.p (.o (.bool b))) => K (val1 (vB !b))
    | .neg, some (.p (.o (.int k n))) => Arith k (0 - n) fun c => K (val1 (vI k c))
    | .xor, some (.p (.o (.int k n))) => Arith k (BitVec.ofInt k.bits (if k.signed then -1 else k.max) ^^^ BitVec.ofInt k.bits n).toNat fun c => K (val1 (vI k c))
    | _, _ => False
  | .cvi k x, K => match env sl x with
    | some (.p (.o (.int _ n))) => Arith k n fun c => K (val1 (vI k c))
    | _ => False
  | .cvs x, K => match env sl x with
    | some (.p (.o (.str s))) => K (val1 (vS s))
    | _ => False
  | .s2b x, K => match env sl x with
    | some (.p (.o (.str s))) => K ⟨some (vO (.slc nid 0 s.size (.upto 1))), [], [.row true true (bytesSV s.data.toList)], []⟩
    | _ => False
  | .b2s x, K => match env sl x with
    | some (.p (.o .nils)) => K (val1 (vS ⟨#[]⟩))
    | some (.p (.o (.slc b o n _))) => match rowAt M b with
      | .row _ _ l => LookN l o n fun c => BytesW c fun bs => K ⟨some (vS ⟨bs.toArray⟩), [], [], [b]⟩
      | .dead => False
    | _ => False
  | .mkf f caps, K => match envCaps sl caps with
    | some cs => K (val1 (vO (.fn f cs)))
    | none => False
  | .sls x lo hi, K => match env sl x with
    | some (.p (.o (.str s))) => intOfX sl lo 0 fun l => intOfX sl hi s.size fun h => Need (0 ≤ l ∧ l ≤ h ∧ h ≤ s.size) (K (val1 (vS (s.extract l.toNat h.toNat))))
    | _ => False
  | .sll size x lo hi, K => match env sl x with
    | some (.p (.o (.slc b o n c))) => intOfX sl lo 0 fun l => intOfX sl hi n fun h => Need (0 ≤ l ∧ l ≤ h ∧ h ≤ n)
        (match c with
         | .is m => K (val1 (vO (.slc b (o + l.toNat * size) (h.toNat - l.toNat) (.is (m - l.toNat)))))
         | .upto z => Need (z = size) (K (val1 (vO (.slc b (o + l.toNat * size) (h.toNat - l.toNat) (.upto z))))))
    | some (.p (.o .nils)) => intOfX sl lo 0 fun l => intOfX sl hi 0 fun h => Need (l = 0 ∧ h = 0) (K (val1 (vO .nils)))
    | _ => False
  | .sla n size x lo hi, K => match env sl x with
    | some (.p (.o (.ptr b o))) => intOfX sl lo 0 fun l => intOfX sl hi n fun h => Need (0 ≤ l ∧ l ≤ h ∧ h ≤ n)
        (K (val1 (vO (.slc b (o + l.toNat * size) (h.toNat - l.toNat) (.is (n - l.toNat))))))
    | _ => False
  | .fad off x, K => match env sl x with
    | some (.p (.o (.ptr b o))) => K (val1 (vO (.ptr b (o + off))))
    | _ => False
  | .fld off none x, K => match env sl x with
    | some (.p (.a l)) => Look l off fun s => s.force fun s => K (val1 (vO s))
    | _ => False
  | .fld off (some n) x, K => match env sl x with
    | some (.p (.a l)) => LookN l off n fun c => forceL c fun c => K (val1 (.p (.a c)))
    | _ => False
  | .iad size x i, K => match env sl x with
    | some (.p (.o (.slc b o n _))) => match env sl i with
      | some (.p (.o (.int _ i))) => Need (0 ≤ i ∧ i < n) (K (val1 (vO (.ptr b (o + i.toNat * size)))))
      | _ => False
    | _ => False
  | .iaa n size x i, K => match env sl x with
    | some (.p (.o (.ptr b o))) => match env sl i with
      | some (.p (.o (.int _ i))) => Need (0 ≤ i ∧ i < n) (K (val1 (vO (.ptr b (o + i.toNat * size)))))
      | _ => False
    | _ => False
  | .ixs x i, K => match env sl x with
    | some (.p (.o (.str s))) => match env sl i with
      | some (.p (.o (.int _ i))) => Need (0 ≤ i ∧ i < s.size) (K (val1 (vI .u8 (bAt s i.toNat))))
      | _ => False
    | _ => False
  | .ixa n size none x i, K => match env sl x with
    | some (.p (.a l)) => match env sl i with
      | some (.p (.o (.int _ i))) => Need (0 ≤ i ∧ i < n) (Look l (i.toNat * size) fun s => s.force fun s => K (val1 (vO s)))
      | _ => False
    | _ => False
  | .ixa n size (some z) x i, K => match env sl x with
    | some (.p (.a l)) => match env sl i with
      | some (.p (.o (.int _ i))) => Need (0 ≤ i ∧ i < n) (LookN l (i.toNat * size) z fun c => forceL c fun c => K (val1 (.p (.a c))))
      | _ => False
    | _ => False
  | .ext i x, K => match env sl x with
    | some (.t l) => match l[i]? with
      | some y => K (val1 (.p y))
      | none => False
    | _ => False
  | .len false x, K => match env sl x with
    | some (.p (.o (.str s))) => K (val1 (vI .i64 s.size))
    | _ => False
  | .len true x, K => match env sl x with
    | some (.p (.o (.slc _ _ n _))) => K (val1 (vI .i64 n))
    | some (.p (.o .nils)) => K (val1 (vI .i64 0))
    | _ => False
  | .lenc n, K => K (val1 (vI .i64 n))
  | .app size bytes x y, K => match env sl y with
    | some (.p (.o (.slc b2 o2 n2 _))) => match rowAt M b2 with
      | .row _ sym2 l2 => LookN l2 o2 (n2 * size) fun c2 => match env sl x with
        | some (.p (.o .nils)) => Need (0 < n2 ∧ n2 * bytes ≤ 140737488355328) (K ⟨some (vO (.slc nid 0 n2 (.upto size))), [], [.row true (sym2 || allFlat c2) c2], [b2]⟩)
        | some (.p (.o (.slc b o n c))) => match rowAt M b with
          | .row rw sym l => match c with
            | .is m => Need ((n + n2) * bytes ≤ 140737488355328) (Test (decide (n + n2 ≤ m))
                (Need (rw = true ∧ o + n * size + n2 * size ≤ lenS l ∧ (sym = true → allFlat c2 = true))
                  (K ⟨some (vO (.slc b o (n + n2) (.is m))), [(b, .row rw sym (setN l (o + n * size) c2))], [], [b, b2]⟩))
                (LookN l o (n * size) fun c1 => K ⟨some (vO (.slc nid 0 (n + n2) (.upto size))), [], [.row true ((sym || allFlat c1) && (sym2 || allFlat c2)) (c1 ++ c2)], [b, b2]⟩))
            | .upto z => Need (z = size ∧ rw = true ∧ o + n * size = lenS l ∧ (n + n2) * bytes ≤ 140737488355328)
                (K ⟨some (vO (.slc nid 0 (n + n2) (.upto size))), [(b, .dead)], [.row true ((sym || allFlat (dropN l o)) && (sym2 || allFlat c2)) (dropN l o ++ c2)], [b, b2]⟩)
          | .dead => False
        | _ => False
      | .dead => False
    | some (.p (.o .nils)) => match env sl x with
      | some (.p (.o .nils)) => K (val1 (vO .nils))
      | some (.p (.o (.slc b o n c))) => K (val1 (vO (.slc b o n c)))
      | _ => False
    | _ => False
  | .apps x y, K => False
  | .mks size bytes zero n m, K => match env sl n with
    | some (.p (.o (.int _ n))) => match env sl m with
      | some (.p (.o (.int _ m))) => Need (0 ≤ n ∧ n ≤ m ∧ m * bytes ≤ 140737488355328)
          (K ⟨some (vO (.slc nid 0 n.toNat (.is m.toNat))), [], [.row true true (repeatL zero m.toNat)], []⟩)
      | _ => False
    | _ => False
  | .mnx mx x y, K => match env sl x with
    | some (.p (.o (.int k a))) => match env sl y with
      | some (.p (.o (.int k' b))) => Need (k = k') (match mx with
        | true => K (val1 (vI k (max a b)))
        | false => K (val1 (vI k (min a b))))
      | _ => False
    | _ => False
  | .call f args news, K => match envPs sl args with
    | some vs => callW P d M nid f vs news K
    | none => False
  | .callv x args news, K => match env sl x with
    | some (.p (.o (.fn f caps))) => match envPs sl args with
      | some vs => callW P d M nid f (appP vs (capsV caps)) news K
      | none => False
    | _ => False
def indepB (a b : List Nat × List Nat) : Bool := noneIn a.2 b.1 && (noneIn b.2 a.1 && noneIn a.2 b.2)
where noneIn : List Nat → List Nat → Bool
  | [], _ => true
  | x :: l, m => !mem x m && noneIn l m
def getF : List (List Nat × List Nat) → Nat → List Nat × List Nat
  | [], _ => ([], [])
  | x :: _, 0 => x
  | _ :: l, n + 1 => getF l n
def okPairs (ft : List (List Nat × List Nat)) : List (Nat × Nat) → Bool
  | [] => true
  | (i, j) :: l => indepB (getF ft i) (getF ft j) && okPairs ft l
def idsOfWr : List (Nat × Row) → List Nat
  | [] => []
  | (b, _) :: l => b :: idsOfWr l
def footOf (e : Eff) (nid : Nat) : List Nat × List Nat := (e.foot, idsOfWr (e.wr ++ numbered nid e.new))
def snoc {α : Type} : List α → α → List α
  | [], x => [x]
  | y :: l, x => y :: snoc l x
def memW (M : List Row) (nid : Nat) (e : Eff) (K : List Row → Prop) : Prop := match e.wr, e.new with
  | [], [] => K M
  | _, _ => forceM (app M e nid) K
def putW (sl : Slots) (d : Option Nat) (v : Option V) (K : Slots → Prop) : Prop := match d, v with
  | none, _ => K sl
  | some d, some v => K ((d, v) :: sl)
  | some d, none => K ((d, .t []) :: sl)
def stepW (d : Bool) (dst : Option Nat) (sl : Slots) (M : List Row) (ft : List (List Nat × List Nat)) (nid : Nat) (e : Eff) (K : Slots → List Row → List (List Nat × List Nat) → Prop) : Prop :=
  memW M nid e fun M => putW sl dst e.val fun sl => match d with
    | true => K sl M (snoc ft (footOf e nid))
    | false => K sl M ft
def opsW (P : Program) (d : Bool) (base : Nat) : List VOper → Slots → List Row → List (List Nat × List Nat) → (Slots → List Row → List (List Nat × List Nat) → Prop) → Prop
  | [], sl, M, ft, K => K sl M ft
  | o :: os, sl, M, ft, K => match o.guard with
    | none => forceN (base + o.off) fun nid => opW P d (look sl) M nid o.op fun e => stepW d o.dst sl M ft nid e fun sl M ft => opsW P d base os sl M ft K
    | some (g, want) => match look sl g with
      | some (.p (.o (.bool b))) => Test b
          (match want with
           | true => forceN (base + o.off) fun nid => opW P d (look ((g, vB true) :: sl)) M nid o.op fun e => stepW d o.dst ((g, vB true) :: sl) M ft nid e fun sl M ft => opsW P d base os sl M ft K
           | false => stepW d o.dst ((g, vB true) :: sl) M ft 0 ⟨none, [], [], []⟩ fun sl M ft => opsW P d base os sl M ft K)
          (match want with
           | false => forceN (base + o.off) fun nid => opW P d (look ((g, vB false) :: sl)) M nid o.op fun e => stepW d o.dst ((g, vB false) :: sl) M ft nid e fun sl M ft => opsW P d base os sl M ft K
           | true => stepW d o.dst ((g, vB false) :: sl) M ft 0 ⟨none, [], [], []⟩ fun sl M ft => opsW P d base os sl M ft K)
      | some (.t []) => stepW d o.dst sl M ft 0 ⟨none, [], [], []⟩ fun sl M ft => opsW P d base os sl M ft K
      | _ => False
def trimW (sl : Slots) : List Nat → (Slots → Prop) → Prop
  | [], K => K []
  | t :: ts, K => match look sl t with
    | some v => trimW sl ts fun r => K ((t, v) :: r)
    | none => trimW sl ts K
def deads : Nat → List Row
  | 0 => []
  | n + 1 => .dead :: deads n
def appR : List Row → List Row → List Row
  | [], m => m
  | r :: l, m => r :: appR l m
def range0 : Nat → Nat → List Nat
  | _, 0 => []
  | a, n + 1 => a :: range0 (a + 1) n
def idsSl : Slots → List Nat
  | [] => []
  | (_, v) :: l => v.ids ++ idsSl l
def idsRows (M : List Row) : List Nat → List Nat
  | [] => []
  | b :: l => (rowAt M b).ids ++ idsRows M l
def renSl (g : Nat → Nat) : Slots → Slots
  | [] => []
  | (t, v) :: l => (t, v.ren g) :: renSl g l
def forceSl : Slots → (Slots → Prop) → Prop
  | [], K => K []
  | (t, v) :: l, K => v.force fun v => forceSl l fun l => K ((t, v) :: l)
structure Cx where
  P : Program
  m : Nat
  keep : List Nat
/-- The state anew: the kept slots, and the rows that they and the first m rows name. -/
def gcW (cx : Cx) (sl : Slots) (M : List Row) (K : Slots → List Row → Prop) : Prop :=
  trimW sl cx.keep fun sl =>
  forceNL (reach M fuel (idsRows M (range0 0 cx.m) ++ idsSl sl) (range0 0 cx.m)) fun ids =>
  Need (okIds M (range0 0 cx.m ++ idsSl sl) ids = true)
   (forceSl (renSl (fun b => idx b ids) sl) fun sl' =>
    forceM (rowsAt M (fun b => idx b ids) ids) fun M' =>
    K sl' M')
inductive Ex where
  | normal
  | exit (id : Nat)
  | goto (l : Nat)
  | ret
abbrev Post := Ex → Slots → List Row → Prop
def thenW (K : Slots → List Row → Prop) (Q : Post) : Post
  | .normal, sl, M => K sl M
  | e, sl, M => Q e sl M
def blockW (id : Nat) (Q : Post) : Post
  | .exit i, sl, M => match Nat.beq i id with
    | true => Q .normal sl M
    | false => Q (.exit i) sl M
  | e, sl, M => Q e sl M
def gotoW (l : Nat) (K : Slots → List Row → Prop) (Q : Post) : Post
  | .goto i, sl, M => match Nat.beq i l with
    | true => K sl M
    | false => False
  | e, sl, M => Q e sl M
/-- The least X that is so. -/
structure LoopW (body : (Slots → List Row → Prop) → Slots → List Row → Prop) (sl : Slots) (M : List Row) : Prop where
  run : ∀ X : Slots → List Row → Prop, (∀ sl M, body X sl M → X sl M) → X sl M
def W (cx : Cx) : VCode → Post → Slots → List Row → Prop
  | .skip, Q, sl, M => Q .normal sl M
  | .label _, Q, sl, M => Q .normal sl M
  | .exit id, Q, sl, M => Q (.exit id) sl M
  | .goto l, Q, sl, M => Q (.goto l) sl M
  | .ret, Q, sl, M => Q .ret sl M
  | .seq a b, Q, sl, M => W cx a (thenW (fun sl M => W cx b Q sl M) Q) sl M
  | .cond x a b, Q, sl, M => match env (look sl) x with
    | some (.p (.o (.bool c))) => Test c (W cx a Q sl M) (W cx b Q sl M)
    | _ => False
  | .block id c, Q, sl, M => W cx c (blockW id Q) sl M
  | .loop c, Q, sl, M => gcW cx sl M (LoopW fun X sl M => W cx c (thenW (fun sl M => gcW cx sl M X) Q) sl M)
  | .scope l c rest, Q, sl, M => W cx c (gotoW l (fun sl M => gcW cx sl M (LoopW fun X sl M => W cx rest (gotoW l (fun sl M => gcW cx sl M X) Q) sl M)) Q) sl M
  | .reg ops tot none, Q, sl, M => trimW sl cx.keep fun sl => forceN (lenR M) fun base => forceM (appR M (deads tot)) fun M =>
      opsW cx.P false base ops sl M [] fun sl M _ => Q .normal sl M
  | .reg ops tot (some pairs), Q, sl, M => trimW sl cx.keep fun sl => forceN (lenR M) fun base => forceM (appR M (deads tot)) fun M =>
      opsW cx.P true base ops sl M [] fun sl M ft => Need (okPairs ft pairs = true) (Q .normal sl M)
inductive VRes where
  | tmp (t : Nat)
  | cell (t : Nat) (agg : Option Nat)
def resW (sl : Slots) (M : List Row) : List VRes → (List PV → Prop) → Prop
  | [], K => K []
  | .tmp t :: r, K => match look sl t with
    | some (.p x) => resW sl M r fun l => K (x :: l)
    | _ => False
  | .cell t none :: r, K => match look sl t with
    | some (.p (.o (.ptr b o))) => match rowAt M b with
      | .row _ _ l => Look l o fun s => s.force fun s => resW sl M r fun l => K (.o s :: l)
      | .dead => False
    | _ => False
  | .cell t (some n) :: r, K => match look sl t with
    | some (.p (.o (.ptr b o))) => match rowAt M b with
      | .row _ _ l => LookN l o n fun c => forceL c fun c => resW sl M r fun l => K (.a c :: l)
      | .dead => False
    | _ => False
def oneV : List PV → V
  | [x] => .p x
  | l => .t l
structure VFn where
  code : VCode
  res : List VRes
  n : Nat
  keep : List Nat
def slots0 (k : Nat) : List PV → Slots
  | [] => []
  | x :: l => (k, .p x) :: slots0 (k + 1) l
structure Ends (v : V) (M : List Row) (R : V → List Row → Prop) : Prop where
  out : R v M
def endW (m : Nat) (v : V) (M : List Row) (R : V → List Row → Prop) : Prop :=
  forceNL (reach M fuel (idsRows M (range0 0 m) ++ v.ids) (range0 0 m)) fun ids =>
  Need (okIds M (range0 0 m ++ v.ids) ids = true)
   ((v.ren (fun b => idx b ids)).force fun v =>
    forceM (rowsAt M (fun b => idx b ids) ids) fun M' =>
    Ends v M' R)
def retW (fn : VFn) (m : Nat) (R : V → List Row → Prop) : Post
  | .normal, sl, M => resW sl M fn.res fun l => endW m (oneV l) M R
  | .ret, sl, M => resW sl M fn.res fun l => endW m (oneV l) M R
  | _, _, _ => False
def FnW (P : Program) (fn : VFn) (args : List PV) (M : List Row) (R : V → List Row → Prop) : Prop :=
  forceN (lenR M) fun m => W ⟨P, m, fn.keep⟩ fn.code (retW fn m R) (slots0 0 args) M
end Go.Proofs.Ytnmeeafnobfobaa.VM
