/- A small evaluator of the model's operations over values that name memory by number: the definitions. -/
import Derived.Calls
import Derived.Below
import Derived.Orders
import Derived.Laws.StructEq
import Derived.RangeFuncLeaves
import Derived.Test.YtmdfkggflainbaaG
namespace Go.Proofs.Ytmdfkggflainbaa.VM
open Go.RowKit
set_option linter.unusedVariables false

structure Place where
  blk : Nat
  base : Nat
  fin : Nat
abbrev PMap := Nat → Option Place
inductive Cap where
  | is (n : Nat)
  | upto (size : Nat)
inductive SV where
  | int (k : IntKind) (n : Int)
  | bool (b : Bool)
  | str (s : ByteArray)
  | ptr (b o : Nat)
  | nilp
  | slc (b o len : Nat) (c : Cap)
  | nils
  | fn (f : FuncId) (caps : List (Nat × Nat))
  | nilfn
  | mp (b : Nat)
  | nilm
  | gp (b o : Nat)
  | nili
  | ifi (t : TypeId) (k : IntKind) (n : Int)
  | yl (b : Nat)
  | any
inductive PV where
  | o (s : SV)
  | a (l : List SV)
inductive V where
  | p (x : PV)
  | t (l : List PV)
abbrev Slots := List (Nat × V)
inductive VX where
  | t (n : Nat)
  | c (v : V)
/-- What two values of an equality are. -/
inductive CK where
  | int (k : IntKind)
  | bool
  | str
inductive EqT where
  | bool
  | ref (k : Nat)      -- against nil: 0 pointers, 1 slices, 2 functions, 3 maps
  | flat (ks : List CK)     -- structs of ints, bools, strings
inductive VOp where
  | mv (x : VX)
  | pick (c a b : VX)
  | new (l : List SV)
  | box (x : VX)
  | bld (zero : List SV) (parts : List (Nat × Nat × VX))
  | bsl (len : Nat) (zero : List SV) (parts : List (Nat × Nat × VX))
  | ld (agg : Option Nat) (x : VX)
  | st (size : Nat) (x v : VX)
  | nilc (x : VX)
  | bin (op : BinOp) (x y : VX)
  | eq (k : EqT) (neg : Bool) (x y : VX)
  | un (op : UnOp) (x : VX)
  | cvi (k : IntKind) (x : VX)
  | cvs (x : VX)
  | s2b (x : VX)
  | b2s (x : VX)
  | mkf (f : FuncId) (caps : List VX)
  | sls (x : VX) (lo hi : Option VX)
  | sll (size : Nat) (x : VX) (lo hi : Option VX)
  | sla (n size : Nat) (x : VX) (lo hi : Option VX)
  | fad (off : Nat) (x : VX)
  | fld (off : Nat) (agg : Option Nat) (x : VX)
  | iad (size : Nat) (x i : VX)
  | iaa (n size : Nat) (x i : VX)
  | ixs (x i : VX)
  | ixa (n size : Nat) (agg : Option Nat) (x i : VX)
  | ext (i : Nat) (x : VX)
  | len (sl : Bool) (x : VX)
  | lenc (n : Nat)
  | app (size bytes : Nat) (x y : VX)
  | apps (x y : VX)
  | mks (size bytes : Nat) (zero : List SV) (len cap : VX)
  | mnx (max : Bool) (x y : VX)
  | call (f : FuncId) (args : List VX) (news : Nat)
  | callv (x : VX) (args : List VX) (news : Nat)
  | cpy (size : Nat) (x y : VX)
  | clr (zero : List SV) (x : VX)
  | sl3 (size : Nat) (x : VX) (lo hi mx : Option VX)
  | mkm (v : Bool)
  | mget (q : Bool) (ks : List CK) (zero : PV) (ok : Bool) (x k : VX)
  | mset (q : Bool) (ks : List CK) (x k v : VX)
  | mdel (q : Bool) (ks : List CK) (x k : VX)
  | mlen (x : VX)
  | rng (x : VX)
  | nxt (x : VX)
  | ent (x : VX)
  | mki (t : TypeId) (x : VX)
  | ifn (neg : Bool) (x : VX)
  | bad
structure VOper where
  dst : Option Nat
  op : VOp
  guard : Option (Nat × Bool)
  off : Nat
inductive VCode where
  | skip
  | reg (ops : List VOper) (tot : Nat) (pairs : Option (List (Nat × Nat)))
  | seq (a b : VCode)
  | cond (x : VX) (a b : VCode)
  | block (id : Nat) (c : VCode)
  | loop (c : VCode)
  | rangeF (f : VX) (ps : List Nat) (asg body : VCode)
  | scope (l : Nat) (c rest : VCode)
  | label (l : Nat)
  | exit (id : Nat)
  | goto (l : Nat)
  | ret

inductive Ex where
  | normal
  | exit (id : Nat)
  | goto (l : Nat)
  | ret
def mem (b : Nat) : List Nat → Bool
  | [] => false
  | c :: l => match Nat.beq b c with
    | true => true
    | false => mem b l
def lenS : List SV → Nat
  | [] => 0
  | _ :: l => lenS l + 1
def SV.flat : SV → Bool
  | .int _ _ | .bool _ | .str _ | .nilp | .nils | .nilfn | .nilm | .gp _ _ | .nili | .ifi _ _ _ => true
  | _ => false
def svVal : SV → Value
  | .int k n => .int k n
  | .bool b => .bool b
  | .str s => .string s
  | .nilp => .pointer none
  | .nils => .slice none 0 0
  | .nilm => .map none
  | .gp b o => .pointer (some ⟨b, o, none⟩)
  | .nili => .nilIface
  | .ifi t k n => .iface t (.int k n)
  | _ => .nilFunc
def slVal : List SV → List Value
  | [] => []
  | s :: l => svVal s :: slVal l
def pvVal : PV → Value
  | .o s => svVal s
  | .a l => .agg ⟨slVal l⟩
def allFlat : List SV → Bool
  | [] => true
  | s :: l => match s.flat with
    | true => allFlat l
    | false => false
def flatP : PV → Bool
  | .o s => s.flat
  | .a l => allFlat l
def repeatL (l : List SV) : Nat → List SV
  | 0 => []
  | n + 1 => l ++ repeatL l n
def snoc {α : Type} : List α → α → List α
  | [], x => [x]
  | y :: l, x => y :: snoc l x
def isSct : Option TypeDesc → Bool
  | some (.struct _) => true
  | _ => false
def svOf : Value → Option SV
  | .int k n => some (.int k n)
  | .bool b => some (.bool b)
  | .string s => some (.str s)
  | .pointer none => some .nilp
  | .slice none 0 0 => some .nils
  | .nilFunc => some .nilfn
  | .map none => some .nilm
  | .nilIface => some .nili
  | _ => none
def svsOf : List Value → Option (List SV)
  | [] => some []
  | v :: l => match svOf v, svsOf l with
    | some s, some r => some (s :: r)
    | _, _ => none
def pvOf : Value → Option PV
  | .agg cs => match svsOf cs.toList with
    | some l => some (.a l)
    | none => none
  | v => match svOf v with
    | some s => some (.o s)
    | none => none
def cX : Operand → Option VX
  | .tmp t => some (.t t)
  | .const v => match pvOf v with
    | some p => some (.c (.p p))
    | none => none
  | .func f => some (.c (.p (.o (.fn f []))))
  | .global g => some (.c (.p (.o (.gp g 0))))
def cXs : List Operand → Option (List VX)
  | [] => some []
  | x :: l => match cX x, cXs l with
    | some y, some r => some (y :: r)
    | _, _ => none
def cXo : Option Operand → Option (Option VX)
  | none => some none
  | some x => match cX x with
    | some y => some (some y)
    | none => none
section
variable (P : Program) (eqs : List Nat)
def aggT (t : TypeId) : Option (Option Nat) := match P.underlying t, P.info? t with
  | some (.struct _), some i => some (some i.size)
  | some (.array _ _), some i => some (some i.size)
  | some _, some _ => some none
  | _, _ => none
def zeroL (t : TypeId) : Option (List SV) := match P.info? t with
  | some i => match i.zero with
    | some z => svsOf z.cells.toList
    | none => none
  | none => none
def zeroP (t : TypeId) : Option PV := match P.info? t with
  | some i => match i.zero with
    | some z => pvOf z
    | none => none
  | none => none
def placeF (fields : Array Field) (i : Nat) : Option (Nat × Nat) := match fields[i]? with
  | some f => match P.info? f.type with
    | some inf => some (f.offset, inf.size)
    | none => none
  | none => none
def cParts (place : Nat → Option (Nat × Nat)) : List (Nat × Operand) → Option (List (Nat × Nat × VX))
  | [] => some []
  | (i, x) :: l => match place i, cX x, cParts place l with
    | some (o, s), some y, some r => some ((o, s, y) :: r)
    | _, _, _ => none
def fieldsKs (F : TypeId → Option (List CK)) : List Field → Nat → Option (List CK)
  | [], _ => some []
  | f :: fs, o => match Nat.beq f.offset o, f.name == "_", F f.type, P.info? f.type with
    | true, false, some ks, some i => match Nat.beq i.size ks.length, fieldsKs F fs (o + ks.length) with
      | true, some r => some (ks ++ r)
      | _, _ => none
    | _, _, _, _ => none
def flatKs : Nat → TypeId → Option (List CK)
  | 0, _ => none
  | d + 1, t => match P.underlying t with
    | some (.int k) => some [.int k]
    | some .bool => some [.bool]
    | some .string => some [.str]
    | some (.struct fs) => match mem t eqs with
      | false => none
      | true => fieldsKs P (fun t => flatKs d t) fs.toList 0
    | _ => none
/-- The kinds of a key's cells, and an element's zero value. -/
def isRef : Option TypeDesc → Bool
  | some (.slice _) => true
  | some (.pointer _) => true
  | some (.map _ _) => true
  | some (.func _ _ _) => true
  | _ => false
/-- .. -/
def mapT (t : TypeId) : Option (Bool × List CK × PV) := match P.underlying t with
  | some (.map k e) => match flatKs P eqs 20 k, zeroP P e with
    | some ks, some z => match flatP z with
      | true => some (isSct (P.underlying k), ks, z)
      | false => none
    | _, _ => none
  | _ => none
def cBin (op : BinOp) (t : TypeId) (x y : VX) : Option VOp := match op, P.underlying t with
  | .eql, some .bool => some (.eq .bool false x y)
  | .neq, some .bool => some (.eq .bool true x y)
  | .eql, some (.pointer _) => some (.eq (.ref 0) false x y)
  | .neq, some (.pointer _) => some (.eq (.ref 0) true x y)
  | .eql, some (.slice _) => some (.eq (.ref 1) false x y)
  | .neq, some (.slice _) => some (.eq (.ref 1) true x y)
  | .eql, some (.func _ _ _) => some (.eq (.ref 2) false x y)
  | .neq, some (.func _ _ _) => some (.eq (.ref 2) true x y)
  | .eql, some (.map _ _) => some (.eq (.ref 3) false x y)
  | .neq, some (.map _ _) => some (.eq (.ref 3) true x y)
  | .eql, some (.struct _) => match mem t eqs, flatKs P eqs 20 t with
    | true, some ks => some (.eq (.flat ks) false x y)
    | _, _ => none
  | .neq, some (.struct _) => match mem t eqs, flatKs P eqs 20 t with
    | true, some ks => some (.eq (.flat ks) true x y)
    | _, _ => none
  | _, some (.int _) => some (.bin op x y)
  | _, some .string => some (.bin op x y)
  | _, _ => none
/-- An interface against the literal nil. -/
def cIfn (op : BinOp) (t : TypeId) (x : Operand) : Operand → Option VOp
  | .const .nilIface => match P.underlying t, cX x with
    | some (.interface _), some x => match op with
      | .eql => some (.ifn false x)
      | .neq => some (.ifn true x)
      | _ => none
    | _, _ => none
  | _ => none
def cCall (news : FuncId → Nat) (c : Call) : Option VOp := match c.callee with
  | .builtin b => match b, c.args.toList, c.argTypes.toList with
    | .len, [x], [t] => match P.underlying t, cX x with
      | some .string, some x => some (.len false x)
      | some (.slice _), some x => some (.len true x)
      | some (.array n _), _ => some (.lenc n)
      | some (.map _ _), some x => some (.mlen x)
      | _, _ => none
    | .min, [x, y], [t, _] => match P.underlying t, cX x, cX y with
      | some (.int _), some x, some y => some (.mnx false x y)
      | _, _, _ => none
    | .max, [x, y], [t, _] => match P.underlying t, cX x, cX y with
      | some (.int _), some x, some y => some (.mnx true x y)
      | _, _, _ => none
    | .append, [x, y], [t, u] => match Nat.beq t u, P.underlying t, cX x, cX y with
      | true, some (.slice e), some x, some y => match P.info? e, zeroL P e with
        | some i, some z => match Nat.beq (lenS z) i.size, Nat.ble 1 i.bytes with
          | true, true => some (.app i.size i.bytes x y)
          | _, _ => none
        | _, _ => none
      | _, _, _, _ => none
    | .delete, [x, k], [t, _] => match mapT P eqs t, cX x, cX k with
      | some (q, ks, _), some x, some k => some (.mdel q ks x k)
      | _, _, _ => none
    | .copy, [x, y], [t, u] => match P.underlying t, P.underlying u, cX x, cX y with
      | some (.slice e), some (.slice e'), some x, some y => match Nat.beq e e', P.info? e with
        | true, some i => some (.cpy i.size x y)
        | _, _ => none
      | _, _, _, _ => none
    | .clear, [x], [t] => match P.underlying t, cX x with
      | some (.slice e), some x => match P.info? e, zeroL P e with
        | some i, some z => match Nat.beq (lenS z) i.size with
          | true => some (.clr z x)
          | false => none
        | _, _ => none
      | _, _ => none
    | _, _, _ => none
  | .value (.func f) => match cXs c.args.toList with
    | some xs => some (.call f xs (news f))
    | none => none
  | .value x => match cX x, cXs c.args.toList with
    | some x, some xs => some (.callv x xs 2)
    | _, _ => none
  | .invoke _ _ => none
def cConv (src dst : TypeId) (x : VX) : Option VOp := match P.underlying src, P.underlying dst with
  | some (.int _), some (.int k) => some (.cvi k x)
  | some .string, some .string => some (.cvs x)
  | some .string, some (.slice e) => match P.underlying e with
    | some (.int .u8) => some (.s2b x)
    | _ => none
  | some (.slice e), some .string => match P.underlying e with
    | some (.int .u8) => some (.b2s x)
    | _ => none
  | _, _ => none
def cOp (news : FuncId → Nat) : Op → Option VOp
  | .move x | .assign x => match cX x with
    | some x => some (.mv x)
    | none => none
  | .pick c a b => match cX c, cX a, cX b with
    | some c, some a, some b => some (.pick c a b)
    | _, _, _ => none
  | .alloc t => match zeroL P t with
    | some l => some (.new l)
    | none => none
  | .box t x => match cX x with
    | some x => some (.box x)
    | none => none
  | .build t parts => match zeroL P t, P.underlying t with
    | some z, some (.struct fs) => match fs.toList.all (fun f => (P.info? f.type).isSome), cParts (placeF P fs) parts.toList with
      | true, some ps => some (.bld z ps)
      | _, _ => none
    | some z, some (.array _ e) => match P.info? e with
      | some i => match cParts (fun k => some (k * i.size, i.size)) parts.toList with
        | some ps => some (.bld z ps)
        | none => none
      | none => none
    | _, _ => none
  | .buildSlice t n parts => match P.underlying t with
    | some (.slice e) => match P.info? e, zeroL P e with
      | some i, some z => match Nat.beq (lenS z) i.size, Nat.ble (n * i.size) 16777216, cParts (fun k => some (k * i.size, i.size)) parts.toList with
        | true, true, some ps => some (.bsl n (repeatL z n) ps)
        | _, _, _ => none
      | _, _ => none
    | _ => none
  | .load t x => match aggT P t, cX x with
    | some a, some x => some (.ld a x)
    | _, _ => none
  | .store t x v => match P.info? t, cX x, cX v with
    | some i, some x, some v => some (.st i.size x v)
    | _, _, _ => none
  | .nilCheck x => match cX x with
    | some x => some (.nilc x)
    | none => none
  | .binOp op t x y _ => match cIfn P op t x y with
    | some v => some v
    | none => match cX x, cX y with
      | some x, some y => cBin P eqs op t x y
      | _, _ => none
  | .unOp op _ x => match cX x with
    | some x => some (.un op x)
    | none => none
  | .convert s d x => match cX x with
    | some x => cConv P s d x
    | none => none
  | .makeFunc (.func f) first caps => match first.toList, cXs caps.toList with
    | [], some cs => some (.mkf f cs)
    | _, _ => none
  | .slice t x lo (some hi) (some mx) => match P.underlying t, cX x, cXo lo, cX hi, cX mx with
    | some (.slice e), some x, some lo, some hi, some mx => match P.info? e with
      | some i => some (.sl3 i.size x lo (some hi) (some mx))
      | none => none
    | _, _, _, _, _ => none
  | .makeMap t none => match P.underlying t with
    | some (.map _ e) => some (.mkm (isRef (P.underlying e)))
    | _ => none
  | .lookup t x k ok => match mapT P eqs t, cX x, cX k with
    | some (q, ks, z), some x, some k => some (.mget q ks z ok x k)
    | _, _, _ => none
  | .mapUpdate t x k v => match mapT P eqs t, cX x, cX k, cX v with
    | some (q, ks, _), some x, some k, some v => some (.mset q ks x k v)
    | _, _, _, _ => none
  | .range t x => match P.underlying t, cX x with
    | some (.map _ _), some x => some (.rng x)
    | _, _ => none
  | .next x false => match cX x with
    | some x => some (.nxt x)
    | none => none
  | .entry x => match cX x with
    | some x => some (.ent x)
    | none => none
  | .slice t x lo hi none => match P.underlying t, cX x, cXo lo, cXo hi with
    | some .string, some x, some lo, some hi => some (.sls x lo hi)
    | some (.slice e), some x, some lo, some hi => match P.info? e with
      | some i => some (.sll i.size x lo hi)
      | none => none
    | some (.array n e), some x, some lo, some hi => match P.info? e with
      | some i => some (.sla n i.size x lo hi)
      | none => none
    | _, _, _, _ => none
  | .fieldAddr t x k => match P.underlying t, cX x with
    | some (.struct fs), some x => match fs[k]? with
      | some f => match P.info? f.type with
        | some i => match i.size with
          | 0 => none
          | _ + 1 => some (.fad f.offset x)
        | none => none
      | none => none
    | _, _ => none
  | .field t x k => match P.underlying t, cX x with
    | some (.struct fs), some x => match fs[k]? with
      | some f => match aggT P f.type with
        | some a => some (.fld f.offset a x)
        | none => none
      | none => none
    | _, _ => none
  | .indexAddr t x i => match P.underlying t, cX x, cX i with
    | some (.slice e), some x, some i => match P.info? e with
      | some inf => some (.iad inf.size x i)
      | none => none
    | some (.array n e), some x, some i => match P.info? e with
      | some inf => some (.iaa n inf.size x i)
      | none => none
    | _, _, _ => none
  | .index t x i => match P.underlying t, cX x, cX i with
    | some .string, some x, some i => some (.ixs x i)
    | some (.array n e), some x, some i => match P.info? e, aggT P e with
      | some inf, some a => some (.ixa n inf.size a x i)
      | _, _ => none
    | _, _, _ => none
  | .extract x i => match cX x with
    | some x => some (.ext i x)
    | none => none
  | .makeSlice t n m => match P.underlying t, cX n, cX m with
    | some (.slice e), some n, some m => match P.info? e, zeroL P e with
      | some i, some z => match Nat.beq (lenS z) i.size, Nat.ble 1 i.bytes with
        | true, true => some (.mks i.size i.bytes z n m)
        | _, _ => none
      | _, _ => none
    | _, _, _ => none
  | .call c => cCall P eqs news c
  | .makeInterface t x => match P.underlying t, cX x with
    | some (.int _), some x => some (.mki t x)
    | _, _ => some .bad
  | .panic _ => some .bad
  | _ => none
def newsOf : VOp → Nat
  | .new _ | .box _ | .bsl _ _ _ | .s2b _ | .app _ _ _ _ | .mks _ _ _ _ _ | .mkm _ | .rng _ => 1
  | .call _ _ n => n
  | .callv _ _ n => n
  | _ => 0
/-- A region's operations; n: how many slots there are. -/
def cOps (news : FuncId → Nat) (n : Nat) (all : Array Oper) : List Oper → Nat → Option (List VOper × Nat)
  | [], off => some ([], off)
  | o :: os, off => match cOp P eqs news o.op, (match o.guard with
      | none => some none
      | some (j, want) => match all[j]? with
        | some g => match g.dst with
          | some d => match Nat.ble (d + 1) n with
            | true => some (some (d, want))
            | false => none
          | none => none
        | none => none : Option (Option (Nat × Bool))), (match o.dst with
      | none => true
      | some d => Nat.ble (d + 1) n) with
    | some v, some g, true => match cOps news n all os (off + newsOf v) with
      | some (r, tot) => some (⟨o.dst, v, g, off⟩ :: r, tot)
      | none => none
    | _, _, _ => none
/-- Which operations come ahead of each, as bits. -/
def getM : List Nat → Nat → Nat
  | [], _ => 0
  | x :: _, 0 => x
  | _ :: l, n + 1 => getM l n
def maskOf (acc : List Nat) : List Edge → Nat
  | [] => 0
  | e :: l => match Region.binds .any e with
    | true => ((1 <<< e.on) ||| getM acc e.on) ||| maskOf acc l
    | false => maskOf acc l
def masksGo : List Oper → List Nat → List Nat
  | [], acc => acc
  | o :: os, acc => match maskOf acc o.after.toList with
    | 0 => masksGo os (snoc acc 0)
    | n + 1 => masksGo os (snoc acc (n + 1))
def rowPairs (m j : Nat) : Nat → Nat → List (Nat × Nat)
  | 0, _ => []
  | f + 1, i => match Nat.testBit m i with
    | true => rowPairs m j f (i + 1)
    | false => (i, j) :: rowPairs m j f (i + 1)
def pairsGo : List Nat → Nat → List (Nat × Nat)
  | [], _ => []
  | m :: l, j => rowPairs m j j 0 ++ pairsGo l (j + 1)
/-- The pairs of operations of which neither need come first. -/
def pairsOf (ops : Array Oper) : List (Nat × Nat) := pairsGo (masksGo ops.toList []) 0
def rdX : VX → List Nat
  | .t n => [n]
  | .c _ => []
def rdO : Option VX → List Nat
  | none => []
  | some x => rdX x
def rdXs : List VX → List Nat
  | [] => []
  | x :: l => rdX x ++ rdXs l
def rdP : List (Nat × Nat × VX) → List Nat
  | [] => []
  | (_, _, x) :: l => rdX x ++ rdP l
def readsOf : VOp → List Nat
  | .mv x => rdX x
  | .pick c a b => rdX c ++ (rdX a ++ rdX b)
  | .new _ => []
  | .box x => rdX x
  | .bld _ ps => rdP ps
  | .bsl _ _ ps => rdP ps
  | .ld _ x => rdX x
  | .st _ x v => rdX x ++ rdX v
  | .nilc x => rdX x
  | .bin _ x y => rdX x ++ rdX y
  | .eq _ _ x y => rdX x ++ rdX y
  | .un _ x => rdX x
  | .cvi _ x => rdX x
  | .cvs x => rdX x
  | .s2b x => rdX x
  | .b2s x => rdX x
  | .mkf _ cs => rdXs cs
  | .sls x lo hi => rdX x ++ (rdO lo ++ rdO hi)
  | .sll _ x lo hi => rdX x ++ (rdO lo ++ rdO hi)
  | .sla _ _ x lo hi => rdX x ++ (rdO lo ++ rdO hi)
  | .fad _ x => rdX x
  | .fld _ _ x => rdX x
  | .iad _ x i => rdX x ++ rdX i
  | .iaa _ _ x i => rdX x ++ rdX i
  | .ixs x i => rdX x ++ rdX i
  | .ixa _ _ _ x i => rdX x ++ rdX i
  | .ext _ x => rdX x
  | .len _ x => rdX x
  | .lenc _ => []
  | .app _ _ x y => rdX x ++ rdX y
  | .apps x y => rdX x ++ rdX y
  | .mks _ _ _ n m => rdX n ++ rdX m
  | .mnx _ x y => rdX x ++ rdX y
  | .call _ xs _ => rdXs xs
  | .callv x xs _ => rdX x ++ rdXs xs
  | .cpy _ x y => rdX x ++ rdX y
  | .clr _ x => rdX x
  | .sl3 _ x lo hi mx => rdX x ++ (rdO lo ++ (rdO hi ++ rdO mx))
  | .mkm _ => []
  | .mget _ _ _ _ x k => rdX x ++ rdX k
  | .mset _ _ x k v => rdX x ++ (rdX k ++ rdX v)
  | .mdel _ _ x k => rdX x ++ rdX k
  | .mlen x => rdX x
  | .rng x => rdX x
  | .nxt x => rdX x
  | .ent x => rdX x
  | .mki _ x => rdX x
  | .ifn _ x => rdX x
  | .bad => []
def readsV (v : VOper) : List Nat := match v.guard with
  | none => readsOf v.op
  | some (g, _) => g :: readsOf v.op
def outOf (d : Option Nat) (l : List Nat) : Bool := match d with
  | none => true
  | some d => !mem d l
def apartV (x y : VOper) : Bool := outOf x.dst (readsV y) && (outOf y.dst (readsV x) && outOf x.dst y.dst.toList)
def getV : List VOper → Nat → Option VOper
  | [], _ => none
  | x :: _, 0 => some x
  | _ :: l, n + 1 => getV l n
def apartAll (vs : List VOper) : List (Nat × Nat) → Bool
  | [] => true
  | (i, j) :: l => match getV vs i, getV vs j with
    | some x, some y => apartV x y && apartAll vs l
    | _, _ => false
/-- Each edge goes back. -/
def backB : List Oper → Nat → Bool
  | [], _ => true
  | o :: os, i => o.after.toList.all (fun e => !Region.binds .any e || Nat.ble (e.on + 1) i) && backB os (i + 1)
/-- A label, and what stands behind it. -/
def vlabel : VCode → Option Nat
  | .label l => some l
  | .seq a b => match vlabel a with
    | some l => some l
    | none => vlabel b
  | _ => none
def vfind : VCode → Nat → Option VCode
  | .seq a b, l => match vfind a l with
    | some r => some (.seq r b)
    | none => vfind b l
  | .label k, l => match Nat.beq k l with
    | true => some .skip
    | false => none
  | _, _ => none
def cCode (news : FuncId → Nat) (n : Nat) : Code → Option VCode
  | .skip => some .skip
  | .region _ ops draw => match cOps P eqs news n ops ops.toList 0 with
    | some (r, tot) => match draw with
      | false => some (.reg r tot none)
      | true => match apartAll r (pairsOf ops), backB ops.toList 0 with
        | true, true => some (.reg r tot (some (pairsOf ops)))
        | _, _ => none
    | none => none
  | .seq a b => match cCode news n a, cCode news n b with
    | some a, some b => some (.seq a b)
    | _, _ => none
  | .cond x a b => match cX x, cCode news n a, cCode news n b with
    | some x, some a, some b => some (.cond x a b)
    | _, _, _ => none
  | .block id c => match cCode news n c with
    | some c => some (.block id c)
    | none => none
  | .loop c => match cCode news n c with
    | some c => some (.loop c)
    | none => none
  | .rangeFunc f ps asg body => match cX f, ps.toList.all (fun t => Nat.ble (t + 1) n), cCode news n asg, cCode news n body with
    | some f, true, some a, some b => some (.rangeF f ps.toList a b)
    | _, _, _, _ => none
  | .scope c => match cCode news n c with
    | some c => match vlabel c with
      | some l => match vfind c l with
        | some r => some (.scope l c r)
        | none => none
      | none => none
    | none => none
  | .exit id => some (.exit id)
  | .label l => some (.label l)
  | .goto l => some (.goto l)
  | .ret => some .ret
  | _ => none
end
/-- How far a loop over a function has come. -/
inductive LS where
  | ready
  | busy
  | done (ex : Ex)
/-- An entry of a map. -/
structure MEnt where
  key : PV
  val : PV
  born : Nat
/-- A part of memory of which only this is known: what holds there, and which blocks it has. -/
structure Abs where
  holds : World → Nat → Prop
  foot : World → Nat → Nat → Prop
  self : ∀ w r, holds w r → foot w r r
  lt : ∀ w r k, holds w r → foot w r k → k < w.heap.size
  keep : ∀ w w' r, holds w r → w.heap.size ≤ w'.heap.size → (∀ k, foot w r k → w'.heap[k]? = w.heap[k]?) → holds w' r ∧ ∀ k, foot w' r k → foot w r k
inductive Row where
  | dead
  | row (rw sym : Bool) (l : List SV)
  | map (es : List MEnt) (clock : Nat)
  | mapv (es : List MEnt) (clock : Nat)
  | iter (m : Nat) (since : Nat) (seen : List Nat) (st : Nat)
  | iter0
  | loop (n : Nat) (keep : List Nat) (sl : Slots) (ps : List Nat) (asg body : VCode) (pend : LS)
  | abs (A : Abs)
def look : Slots → Nat → Option V
  | [], _ => none
  | (k, v) :: r, t => match Nat.beq k t with
    | true => some v
    | false => look r t
abbrev Env := Nat → Option V
def env (L : Env) : VX → Option V
  | .t n => L n
  | .c v => some v
def rowAt : List Row → Nat → Row
  | [], _ => .dead
  | r :: _, 0 => r
  | _ :: l, n + 1 => rowAt l n
def takeN : List SV → Nat → Option (List SV)
  | _, 0 => some []
  | [], _ + 1 => none
  | x :: l, n + 1 => match takeN l n with
    | some c => some (x :: c)
    | none => none
def dropN : List SV → Nat → List SV
  | l, 0 => l
  | [], _ + 1 => []
  | _ :: l, n + 1 => dropN l n
def getN (l : List SV) (o n : Nat) : Option (List SV) := takeN (dropN l o) n
def nth : List SV → Nat → Option SV
  | [], _ => none
  | x :: _, 0 => some x
  | _ :: l, n + 1 => nth l n
def over : List SV → List SV → List SV
  | l, [] => l
  | [], _ => []
  | _ :: l, y :: c => y :: over l c
def setN : List SV → Nat → List SV → List SV
  | l, 0, c => over l c
  | [], _ + 1, _ => []
  | x :: l, n + 1, c => x :: setN l n c
def setRow : List Row → Nat → Row → List Row
  | [], _, _ => []
  | _ :: l, 0, r => r :: l
  | x :: l, n + 1, r => x :: setRow l n r
def setRows : List Row → List (Nat × Row) → List Row
  | M, [] => M
  | M, (i, r) :: l => setRows (setRow M i r) l
def numbered (nid : Nat) : List Row → List (Nat × Row)
  | [] => []
  | r :: l => (nid, r) :: numbered (nid + 1) l
structure Eff where
  val : Option V
  wr : List (Nat × Row)
  new : List Row
  foot : List Nat
def app (M : List Row) (e : Eff) (nid : Nat) : List Row := setRows M (e.wr ++ numbered nid e.new)

/-! forcing: each is its continuation at the very value -/
def small : List Nat := [0, 1, 2, 3, 4, 5, 6, 7, 8, 9, 10, 11, 12, 13, 14, 15, 16, 17, 18, 19, 20, 21, 22, 23, 24, 25, 26, 27, 28, 29, 30, 31, 32, 33, 34, 35, 36, 37, 38, 39, 40, 41, 42, 43, 44, 45, 46, 47, 48, 49, 50, 51, 52, 53, 54, 55, 56, 57, 58, 59, 60, 61, 62, 63, 64]
def forceNat (n : Nat) (K : Nat → Prop) : List Nat → Prop
  | [] => K n
  | k :: ks => match Nat.beq n k with
    | true => K k
    | false => forceNat n K ks
def forceN (n : Nat) (K : Nat → Prop) : Prop := forceNat n K small
def forceNL : List Nat → (List Nat → Prop) → Prop
  | [], K => K []
  | n :: l, K => forceN n fun n => forceNL l fun l => K (n :: l)
def forceCaps : List (Nat × Nat) → (List (Nat × Nat) → Prop) → Prop
  | [], K => K []
  | (b, o) :: l, K => forceN b fun b => forceCaps l fun l => K ((b, o) :: l)
def SV.force : SV → (SV → Prop) → Prop
  | .int k n, K => K (.int k n)
  | .bool b, K => K (.bool b)
  | .str s, K => K (.str s)
  | .ptr b o, K => forceN b fun b => K (.ptr b o)
  | .nilp, K => K .nilp
  | .slc b o l c, K => forceN b fun b => K (.slc b o l c)
  | .nils, K => K .nils
  | .fn f c, K => forceCaps c fun c => K (.fn f c)
  | .nilfn, K => K .nilfn
  | .mp b, K => forceN b fun b => K (.mp b)
  | .nilm, K => K .nilm
  | .gp b o, K => K (.gp b o)
  | .nili, K => K .nili
  | .ifi t k n, K => K (.ifi t k n)
  | .yl b, K => forceN b fun b => K (.yl b)
  | .any, K => K .any
def forceL : List SV → (List SV → Prop) → Prop
  | [], K => K []
  | s :: l, K => s.force fun s => forceL l fun l => K (s :: l)
def PV.force : PV → (PV → Prop) → Prop
  | .o s, K => s.force fun s => K (.o s)
  | .a l, K => forceL l fun l => K (.a l)
def forcePL : List PV → (List PV → Prop) → Prop
  | [], K => K []
  | s :: l, K => s.force fun s => forcePL l fun l => K (s :: l)
def V.force : V → (V → Prop) → Prop
  | .p x, K => x.force fun x => K (.p x)
  | .t l, K => forcePL l fun l => K (.t l)
def forceSl : Slots → (Slots → Prop) → Prop
  | [], K => K []
  | (t, v) :: l, K => v.force fun v => forceSl l fun l => K ((t, v) :: l)
def forceE : List MEnt → (List MEnt → Prop) → Prop
  | [], K => K []
  | ⟨k, v, b⟩ :: l, K => v.force fun v => forceE l fun l => K (⟨k, v, b⟩ :: l)
def Row.force : Row → (Row → Prop) → Prop
  | .dead, K => K .dead
  | .row rw true l, K => K (.row rw true l)
  | .row rw false l, K => forceL l fun l => K (.row rw false l)
  | .map es c, K => K (.map es c)
  | .mapv es c, K => forceE es fun es => K (.mapv es c)
  | .iter m since seen st, K => forceN m fun m => K (.iter m since seen st)
  | .iter0, K => K .iter0
  | .loop n keep sl ps asg body pend, K => forceSl sl fun sl => K (.loop n keep sl ps asg body pend)
  | .abs A, K => K (.abs A)
def forceM : List Row → (List Row → Prop) → Prop
  | [], K => K []
  | r :: l, K => r.force fun r => forceM l fun l => K (r :: l)

/-! where the evaluation stops -/
structure Arith (k : IntKind) (e : Int) (K : Int → Prop) : Prop where
  run : K (k.wrap e)
structure Test (b : Bool) (A B : Prop) : Prop where
  yes : b = true → A
  no : b = false → B
structure Need (p : Prop) (A : Prop) : Prop where
  pf : p
  go : A
structure Look (l : List SV) (i : Nat) (K : SV → Prop) : Prop where
  ex : ∃ s, nth l i = some s ∧ K s
structure LookN (l : List SV) (o n : Nat) (K : List SV → Prop) : Prop where
  ex : ∃ c, getN l o n = some c ∧ K c
/-- Are the cells the same? none: cells of another kind. -/
def eqCells : List CK → List SV → List SV → Option Bool
  | [], [], [] => some true
  | .int q :: ks, .int k a :: l, .int k' b :: m => match decide (k = q), decide (k' = q), eqCells ks l m with
    | true, true, some c => some ((a == b) && c)
    | _, _, _ => none
  | .bool :: ks, .bool a :: l, .bool b :: m => match eqCells ks l m with
    | some c => some ((a == b) && c)
    | none => none
  | .str :: ks, .str a :: l, .str b :: m => match eqCells ks l m with
    | some c => some ((a.toList == b.toList) && c)
    | none => none
  | _, _, _ => none
def eqK (q : Bool) (ks : List CK) : PV → PV → Option Bool
  | .o s, .o t => match q with
    | false => eqCells ks [s] [t]
    | true => none
  | .a l, .a m => match q with
    | true => eqCells ks l m
    | false => none
  | _, _ => none
/-- Is it a key of that kind? -/
def cellsK : List CK → List SV → Bool
  | [], [] => true
  | .int q :: ks, .int k _ :: l => match decide (k = q) with
    | true => cellsK ks l
    | false => false
  | .bool :: ks, .bool _ :: l => cellsK ks l
  | .str :: ks, .str _ :: l => cellsK ks l
  | _, _ => false
def keyOk (q : Bool) (ks : List CK) : PV → Bool
  | .o s => match q with
    | false => cellsK ks [s]
    | true => false
  | .a l => match q with
    | true => cellsK ks l
    | false => false
def mfind (q : Bool) (ks : List CK) (k : PV) : List MEnt → Option (Option PV)
  | [] => some none
  | e :: es => match eqK q ks k e.key with
    | some true => some (some e.val)
    | some false => mfind q ks k es
    | none => none
def mput (q : Bool) (ks : List CK) (k v : PV) : List MEnt → Nat → Option (List MEnt × Nat)
  | [], c => some ([⟨k, v, c⟩], c + 1)
  | e :: es, c => match eqK q ks k e.key with
    | some true => some (⟨k, v, e.born⟩ :: es, c)
    | some false => match mput q ks k v es c with
      | some (es', c') => some (e :: es', c')
      | none => none
    | none => none
def mdrop (q : Bool) (ks : List CK) (k : PV) : List MEnt → Option (List MEnt)
  | [] => some []
  | e :: es => match eqK q ks k e.key with
    | some true => some es
    | some false => match mdrop q ks k es with
      | some es' => some (e :: es')
      | none => none
    | none => none
structure LookM (q : Bool) (ks : List CK) (es : List MEnt) (k : PV) (K : Option PV → Prop) : Prop where
  ex : ∃ r, mfind q ks k es = some r ∧ K r
structure PutM (q : Bool) (ks : List CK) (es : List MEnt) (c : Nat) (k v : PV) (K : List MEnt → Nat → Prop) : Prop where
  ex : ∃ es' c', mput q ks k v es c = some (es', c') ∧ K es' c'
structure DropM (q : Bool) (ks : List CK) (es : List MEnt) (k : PV) (K : List MEnt → Prop) : Prop where
  ex : ∃ es', mdrop q ks k es = some es' ∧ K es'
/-- What a range over a map came to last. -/
structure EntM (es : List MEnt) (c : Nat) (seen : List Nat) (st : Nat) (K : MEnt → Prop) : Prop where
  ex : c = st ∧ ∃ n e, seen.getLast? = some n ∧ es.find? (fun e => e.born == n) = some e ∧ K e
structure NextM (es : List MEnt) (since : Nat) (seen : List Nat) (st : Nat) (K : Option MEnt → Prop) : Prop where
  ok : seen = [] ∨ es = [] ∨ ∃ e ∈ es, e.born < st
  some_ : ∀ e ∈ es, e.born ∉ seen → K (some e)
  none_ : (∀ e ∈ es, e.born < since → e.born ∈ seen) → K none
def bytesOf : List SV → Option (List UInt8)
  | [] => some []
  | .int .u8 n :: l => match bytesOf l with
    | some r => some (UInt8.ofNat n.toNat :: r)
    | none => none
  | _ => none
structure BytesW (c : List SV) (K : List UInt8 → Prop) : Prop where
  ex : ∃ bs, bytesOf c = some bs ∧ K bs

/-! what a value names -/
def capIds : List (Nat × Nat) → List Nat
  | [] => []
  | (b, _) :: l => b :: capIds l
def SV.ids : SV → List Nat
  | .ptr b _ => [b]
  | .slc b _ _ _ => [b]
  | .fn _ caps => capIds caps
  | .mp b => [b]
  | .yl b => [b]
  | _ => []
def idsL : List SV → List Nat
  | [] => []
  | s :: l => s.ids ++ idsL l
def PV.ids : PV → List Nat
  | .o s => s.ids
  | .a l => idsL l
def idsPL : List PV → List Nat
  | [] => []
  | s :: l => s.ids ++ idsPL l
def V.ids : V → List Nat
  | .p x => x.ids
  | .t l => idsPL l
def idsSl : Slots → List Nat
  | [] => []
  | (_, v) :: l => v.ids ++ idsSl l
def idsE : List MEnt → List Nat
  | [] => []
  | e :: l => e.val.ids ++ idsE l
def Row.ids : Row → List Nat
  | .row _ false l => idsL l
  | .iter m _ _ _ => [m]
  | .mapv es _ => idsE es
  | .loop _ _ sl _ _ _ _ => idsSl sl
  | _ => []
def reach (M : List Row) : Nat → List Nat → List Nat → List Nat
  | 0, _, seen => seen
  | _ + 1, [], seen => seen
  | f + 1, b :: todo, seen => match mem b seen with
    | true => reach M f todo seen
    | false => reach M f ((rowAt M b).ids ++ todo) (seen ++ [b])
def allIn : List Nat → List Nat → Bool
  | [], _ => true
  | b :: l, ids => mem b ids && allIn l ids
def closedB (M : List Row) (ids : List Nat) : List Nat → Bool
  | [] => true
  | b :: l => allIn (rowAt M b).ids ids && closedB M ids l
def nodupB : List Nat → Bool
  | [] => true
  | b :: l => !mem b l && nodupB l
def okIds (M : List Row) (roots ids : List Nat) : Bool := allIn roots ids && (closedB M ids ids && nodupB ids)
def idx (b : Nat) : List Nat → Nat
  | [] => 0
  | c :: l => match Nat.beq b c with
    | true => 0
    | false => idx b l + 1
def back (ids : List Nat) (nid : Nat) (k : Nat) : Nat := match ids, k with
  | [], k => nid + k
  | c :: _, 0 => c
  | _ :: l, k + 1 => back l nid k
def renCaps (g : Nat → Nat) : List (Nat × Nat) → List (Nat × Nat)
  | [] => []
  | (b, o) :: l => (g b, o) :: renCaps g l
def SV.ren (g : Nat → Nat) : SV → SV
  | .ptr b o => .ptr (g b) o
  | .slc b o l c => .slc (g b) o l c
  | .fn f caps => .fn f (renCaps g caps)
  | .mp b => .mp (g b)
  | .yl b => .yl (g b)
  | s => s
def renL (g : Nat → Nat) : List SV → List SV
  | [] => []
  | s :: l => s.ren g :: renL g l
def PV.ren (g : Nat → Nat) : PV → PV
  | .o s => .o (s.ren g)
  | .a l => .a (renL g l)
def renPL (g : Nat → Nat) : List PV → List PV
  | [] => []
  | s :: l => s.ren g :: renPL g l
def V.ren (g : Nat → Nat) : V → V
  | .p x => .p (x.ren g)
  | .t l => .t (renPL g l)
def renSl (g : Nat → Nat) : Slots → Slots
  | [] => []
  | (t, v) :: l => (t, v.ren g) :: renSl g l
def renE (g : Nat → Nat) : List MEnt → List MEnt
  | [] => []
  | ⟨k, v, b⟩ :: l => ⟨k, v.ren g, b⟩ :: renE g l
def Row.ren (g : Nat → Nat) : Row → Row
  | .row rw false l => .row rw false (renL g l)
  | .iter m since seen st => .iter (g m) since seen st
  | .mapv es c => .mapv (renE g es) c
  | .loop n keep sl ps asg body pend => .loop n keep (renSl g sl) ps asg body pend
  | r => r
def rowsAt (M : List Row) (g : Nat → Nat) : List Nat → List Row
  | [] => []
  | b :: l => (rowAt M b).ren g :: rowsAt M g l
def renRows (g : Nat → Nat) : List Row → List Row
  | [] => []
  | r :: l => r.ren g :: renRows g l
def zipIds : List Nat → List Row → List (Nat × Row)
  | b :: l, r :: M => (b, r) :: zipIds l M
  | _, _ => []
def dropRows : List Row → Nat → List Row
  | l, 0 => l
  | [], _ + 1 => []
  | _ :: l, n + 1 => dropRows l n
def lenR : List Row → Nat
  | [] => 0
  | _ :: l => lenR l + 1
def lenI : List Nat → Nat
  | [] => 0
  | _ :: l => lenI l + 1

/-! values and memory as the model has them -/
def Cap.Is (p : Place) (o len cap : Nat) : Cap → Prop
  | .is n => cap = n
  | .upto size => p.base + o + cap * size ≤ p.fin
def capsIs (ρ : PMap) : List (Nat × Nat) → List Value → Prop
  | [], vs => vs = []
  | c :: l, vs => ∃ p r, ρ c.1 = some p ∧ vs = .pointer (some ⟨p.blk, p.base + c.2, none⟩) :: r ∧ capsIs ρ l r
def SV.Is (ρ : PMap) : SV → Value → Prop
  | .int k n, v => v = .int k n
  | .bool b, v => v = .bool b
  | .str s, v => v = .string s
  | .ptr b o, v => ∃ p, ρ b = some p ∧ v = .pointer (some ⟨p.blk, p.base + o, none⟩)
  | .nilp, v => v = .pointer none
  | .slc b o len c, v => ∃ p a cap, ρ b = some p ∧ v = .slice (some a) len cap ∧ (cap = 0 ∨ a = ⟨p.blk, p.base + o, none⟩) ∧ len ≤ cap ∧ c.Is p o len cap
  | .nils, v => v = .slice none 0 0
  | .fn f caps, v => ∃ vs, v = .func (.func f) #[] vs ∧ capsIs ρ caps vs.toList
  | .nilfn, v => v = .nilFunc
  | .mp b, v => ∃ p, ρ b = some p ∧ v = .map (some p.blk)
  | .nilm, v => v = .map none
  | .gp b o, v => v = .pointer (some ⟨b, o, none⟩)
  | .nili, v => v = .nilIface
  | .ifi t k n, v => v = .iface t (.int k n)
  | .yl b, v => ∃ p, ρ b = some p ∧ v = .func (.yield p.blk) #[] #[]
  | .any, v => v.oneCell' = true
def isL (ρ : PMap) : List SV → List Value → Prop
  | [], vs => vs = []
  | s :: l, vs => ∃ v r, vs = v :: r ∧ s.Is ρ v ∧ isL ρ l r
def PV.Is (ρ : PMap) : PV → Value → Prop
  | .o s, v => s.Is ρ v
  | .a l, v => ∃ c, v = .agg c ∧ isL ρ l c.toList
def isPL (ρ : PMap) : List PV → List Value → Prop
  | [], vs => vs = []
  | s :: l, vs => ∃ v r, vs = v :: r ∧ s.Is ρ v ∧ isPL ρ l r
def V.Is (ρ : PMap) : V → Value → Prop
  | .p x, v => x.Is ρ v
  | .t l, v => ∃ c, v = .tuple c ∧ isPL ρ l c.toList
/-- The entries of a map, their values as they may be. -/
def entsIs (ρ : PMap) : List MEnt → List MapEntry → Prop
  | [], l => l = []
  | e :: es, l => ∃ u r, l = ⟨pvVal e.key, u, e.born⟩ :: r ∧ e.val.Is ρ u ∧ entsIs ρ es r
def MEnt.obj (e : MEnt) : MapEntry := ⟨pvVal e.key, pvVal e.val, e.born⟩
def Ex.code : Ex → Option Code
  | .normal => none
  | .exit id => some (.exit id)
  | .goto l => some (.goto l)
  | .ret => some .ret
/-- A loop's record, by what its code is written out as. -/
structure LoopIs (ρ : PMap) (L : Go.Loop) (n : Nat) (sl : Slots) (ps : List Nat) (asg body : VCode) (pend : LS) : Prop where
  size : L.tmps.size = n
  slots : ∀ t v, look sl t = some v → ∃ u, L.tmps[t]? = some u ∧ v.Is ρ u
  params : L.params.toList = ps
  lt : ∀ t ∈ ps, t < n
  asg : cCode Try.prog eqsT newsT n L.assign = some asg
  body : cCode Try.prog eqsT newsT n L.body = some body
  pend : match pend with
    | .ready => L.state = .ready ∧ L.pending = none
    | .busy => L.state = .busy
    | .done ex => ∃ c, ex.code = some c ∧ L.state = .done ∧ L.pending = some c
/-- Row r lies at place p. -/
def RowOk (ρ : PMap) (w : World) (p : Place) : Row → Prop
  | .dead => True
  | .row rw sym l =>
    p.blk < w.heap.size ∧ (∀ i s, nth l i = some s → ∃ v, s.Is ρ v ∧ w.cell? ⟨p.blk, p.base + i, none⟩ = some v) ∧
    (sym = true → ∀ i s, nth l i = some s → s.flat = true) ∧
    (rw = true → p.base + lenS l ≤ p.fin ∧ ∃ c T lo hi, w.heap[p.blk]? = some (.cells c T (lo, hi)) ∧ c.size = p.fin ∧ (lo = hi ∨ p.fin ≤ lo))
  | .map es c => ∃ a : Array MapEntry, w.heap[p.blk]? = some (.map a c) ∧ a.toList = es.map MEnt.obj ∧ ∀ e ∈ es, flatP e.key = true ∧ flatP e.val = true
  | .mapv es c => ∃ a : Array MapEntry, w.heap[p.blk]? = some (.map a c) ∧ entsIs ρ es a.toList ∧ ∀ e ∈ es, flatP e.key = true
  | .iter m since seen st => p.base = 0 ∧ ∃ q, ρ m = some q ∧ w.heap[p.blk]? = some (.mapIter (some q.blk) since seen.toArray st)
  | .iter0 => p.base = 0 ∧ w.heap[p.blk]? = some (.mapIter none 0 #[] 0)
  | .loop n keep sl ps asg body pend => p.base = 0 ∧ ∃ L, w.heap[p.blk]? = some (.loop L) ∧ LoopIs ρ L n sl ps asg body pend
  | .abs A => p.base = 0 ∧ A.holds w p.blk
def Row.rw : Row → Bool
  | .dead => false
  | .row rw _ _ => rw
  | _ => true
def Row.live : Row → Bool
  | .dead => false
  | _ => true
/-- The blocks of a row. -/
def Row.cov (w : World) (p : Place) (k : Nat) : Row → Prop
  | .dead => False
  | .abs A => A.foot w p.blk k
  | _ => k = p.blk
structure Rep (ρ : PMap) (M : List Row) (w : World) : Prop where
  dom : ∀ b p, ρ b = some p → b < lenR M
  rows : ∀ b, (rowAt M b).live = true → ∃ p, ρ b = some p ∧ RowOk ρ w p (rowAt M b)
  apart : ∀ b c p q k, b ≠ c → (rowAt M b).rw = true → (rowAt M c).live = true → ρ b = some p → ρ c = some q → (rowAt M b).cov w p k → ¬ (rowAt M c).cov w q k
def Owned (ρ : PMap) (M : List Row) (w : World) (k : Nat) : Prop := ∃ b p, (rowAt M b).rw = true ∧ ρ b = some p ∧ (rowAt M b).cov w p k
/-- From one state to a later one. -/
structure Ev (ρ : PMap) (M : List Row) (w : World) (ρ' : PMap) (M' : List Row) (w' : World) : Prop where
  ext : ∀ b p, ρ b = some p → ρ' b = some p
  os : w'.os = w.os
  tape : w'.tape = w.tape
  output : w'.output = w.output
  size : w.heap.size ≤ w'.heap.size
  frame : ∀ k, k < w.heap.size → ¬ Owned ρ M w k → w'.heap[k]? = w.heap[k]?
  owned : ∀ k, Owned ρ' M' w' k → Owned ρ M w k ∨ w.heap.size ≤ k
  fresh : ∀ b p k, (rowAt M' b).live = true → ρ' b = some p → (rowAt M' b).cov w' p k → ((rowAt M b).live = true ∧ ρ b = some p ∧ (rowAt M b).cov w p k) ∨ w.heap.size ≤ k ∨ Owned ρ M w k
/-- What the program's first blocks hold is never written. -/
structure Ground where
  w0 : World
  n : Nat
structure Low (G : Ground) (ρ : PMap) (M : List Row) (w : World) : Prop where
  size : G.n ≤ w.heap.size
  same : ∀ k, k < G.n → w.heap[k]? = G.w0.heap[k]?
  high : ∀ k, Owned ρ M w k → G.n ≤ k
/-- A cell of the program's first blocks. -/
structure LookG (G : Ground) (b o : Nat) (K : SV → Prop) : Prop where
  ex : ∃ s u, b < G.n ∧ G.w0.cell? ⟨b, o, none⟩ = some u ∧ s.Is (fun _ => none) u ∧ K s
def Ent (P : Program) (f : FuncId) : Prop := ∃ fn, P.funcs[f]? = some fn ∧ (fn.name == "runtime.NumGoroutine") = false ∧ fn.body.isNone = false
/-- Function f, called with these arguments over this memory, ends as R says. -/
structure Can (G : Ground) (P : Program) (f : FuncId) (args : List PV) (M : List Row) (R : V → List Row → Prop) : Prop where
  ent : Ent P f
  run : ∀ (ρ : PMap) (w : World) (vs : List Value), Rep ρ M w → Low G ρ M w → isPL ρ args vs →
    Calls P f vs.toArray w fun e w' => ∃ u v M' ρ', e = .returned u ∧ R v M' ∧ v.Is ρ' u ∧ Rep ρ' M' w' ∧ Ev ρ M w ρ' M' w' ∧ ∀ b, b < lenR M → ρ' b = ρ b
def Det (G : Ground) (P : Program) (f : FuncId) (args : List PV) (M : List Row) (v : V) (M' : List Row) : Prop :=
  Can G P f args M fun v' M'' => v' = v ∧ M'' = M'
structure CallW (G : Ground) (P : Program) (d : Bool) (f : FuncId) (args : List PV) (M : List Row) (K : V → List Row → Prop) : Prop where
  ex : (∃ v M', Det G P f args M v M' ∧ K v M') ∨ (d = false ∧ ∃ R, Can G P f args M R ∧ ∀ v M', R v M' → K v M')
theorem CallW.det {G : Ground} {P : Program} {d : Bool} {f : FuncId} {args : List PV} {M M' : List Row} {v : V} {K : V → List Row → Prop} (h : Det G P f args M v M') (k : K v M') : CallW G P d f args M K :=
  ⟨.inl ⟨v, M', h, k⟩⟩
theorem CallW.can {G : Ground} {P : Program} {f : FuncId} {args : List PV} {M : List Row} {R K : V → List Row → Prop} (h : Can G P f args M R) (k : ∀ v M', R v M' → K v M') : CallW G P false f args M K :=
  ⟨.inr ⟨rfl, R, h, k⟩⟩
/-- A round of a loop over a function: yield (the first of these), called with the others, over this memory. -/
structure YCan (G : Ground) (P : Program) (args : List PV) (M : List Row) (R : V → List Row → Prop) : Prop where
  run : ∀ (ρ : PMap) (w : World) (vs : List Value), Rep ρ M w → Low G ρ M w → isPL ρ args vs →
    ∃ (l : Nat) (us : List Value) (L : Go.Loop), vs = .func (.yield l) #[] #[] :: us ∧ w.heap[l]? = some (.loop L) ∧ us.length = L.params.size ∧
      RoundIn Fence.wide 0 P l L.fn ((L.params.zip us.toArray).foldl (fun tmps (t, a) => tmps.setIfInBounds t a) L.tmps) L.assign L.body w
        fun e w' => ∃ u v M' ρ', e = .returned u ∧ R v M' ∧ v.Is ρ' u ∧ Rep ρ' M' w' ∧ Ev ρ M w ρ' M' w' ∧ ∀ b, b < lenR M → ρ' b = ρ b
/-- The same, where it may be made ahead of others or behind them: one end. -/
structure YldD (G : Ground) (P : Program) (args : List PV) (M : List Row) (K : V → List Row → Prop) : Prop where
  ex : ∃ v M', YCan G P args M (fun a b => a = v ∧ b = M') ∧ K v M'
theorem YldD.run {G : Ground} {P : Program} {args : List PV} {M : List Row} {K : V → List Row → Prop} {v : V} {M' : List Row} (h : YCan G P args M (fun a b => a = v ∧ b = M')) (g : K v M') : YldD G P args M K := ⟨v, M', h, g⟩
structure YldW (G : Ground) (P : Program) (args : List PV) (M : List Row) (K : V → List Row → Prop) : Prop where
  ex : ∃ R, YCan G P args M R ∧ ∀ v M', R v M' → K v M'
end Go.Proofs.Ytmdfkggflainbaa.VM
