/- The evaluator: from the program's operations to its own. -/
import Derived.Test.YtnmeeafnobfobaaVmD
import Derived.Laws.StructEq
namespace Go.Proofs.Ytnmeeafnobfobaa.VM
open Go.RowKit
set_option linter.unusedVariables false
set_option linter.unusedSimpArgs false
def svOf : Value → Option SV
  | .int k n => some (.int k n)
  | .bool b => some (.bool b)
  | .string s => some (.str s)
  | .pointer none => some .nilp
  | .slice none 0 0 => some .nils
  | .nilFunc => some .nilfn
  | _ => none
def svsOf : List Value → Option (List SV)
  | [] => some []
  | v :: l => match svOf v, svsOf l with
    | some s, some r => some (s :: r)
    | _, _ => none
def pvOf : Value → Option PV
  | .agg cs => match svsOf cs.toList with
    | some l => some (.a l)
    | none => none
  | v => match svOf v with
    | some s => some (.o s)
    | none => none
def cX : Operand → Option VX
  | .tmp t => some (.t t)
  | .const v => match pvOf v with
    | some p => some (.c (.p p))
    | none => none
  | .func f => some (.c (.p (.o (.fn f []))))
  | .global _ => none
def cXs : List Operand → Option (List VX)
  | [] => some []
  | x :: l => match cX x, cXs l with
    | some y, some r => some (y :: r)
    | _, _ => none
def cXo : Option Operand → Option (Option VX)
  | none => some none
  | some x => match cX x with
    | some y => some (some y)
    | none => none
section
variable (P : Program) (eqs : List Nat)
def aggT (t : TypeId) : Option (Option Nat) := match P.underlying t, P.info? t with
  | some (.struct _), some i => some (some i.size)
  | some (.array _ _), some i => some (some i.size)
  | some _, some _ => some none
  | _, _ => none
def zeroL (t : TypeId) : Option (List SV) := match P.info? t with
  | some i => match i.zero with
    | some z => svsOf z.cells.toList
    | none => none
  | none => none
def placeF (fields : Array Field) (i : Nat) : Option (Nat × Nat) := match fields[i]? with
  | some f => match P.info? f.type with
    | some inf => some (f.offset, inf.size)
    | none => none
  | none => none
def cParts (place : Nat → Option (Nat × Nat)) : List (Nat × Operand) → Option (List (Nat × Nat × VX))
  | [] => some []
  | (i, x) :: l => match place i, cX x, cParts place l with
    | some (o, s), some y, some r => some ((o, s, y) :: r)
    | _, _, _ => none
def fieldsKs (F : TypeId → Option (List CK)) : List Field → Nat → Option (List CK)
  | [], _ => some []
  | f :: fs, o => match Nat.beq f.offset o, f.name == "_", F f.type, P.info? f.type with
    | true, false, some ks, some i => match Nat.beq i.size ks.length, fieldsKs F fs (o + ks.length) with
      | true, some r => some (ks ++ r)
      | _, _ => none
    | _, _, _, _ => none
def flatKs : Nat → TypeId → Option (List CK)
  | 0, _ => none
  | d + 1, t => match P.underlying t with
    | some (.int k) => some [.int k]
    | some .bool => some [.bool]
    | some .string => some [.str]
    | some (.struct fs) => match mem t eqs with
      | false => none
      | true => fieldsKs P (fun t => flatKs d t) fs.toList 0
    | _ => none
def cBin (op : BinOp) (t : TypeId) (x y : VX) : Option VOp := match op, P.underlying t with
  | .eql, some .bool => some (.eq .bool false x y)
  | .neq, some .bool => some (.eq .bool true x y)
  | .eql, some (.pointer _) => some (.eq (.ref 0) false x y)
  | .neq, some (.pointer _) => some (.eq (.ref 0) true x y)
  | .eql, some (.slice _) => some (.eq (.ref 1) false x y)
  | .neq, some (.slice _) => some (.eq (.ref 1) true x y)
  | .eql, some (.func _ _ _) => some (.eq (.ref 2) false x y)
  | .neq, some (.func _ _ _) => some (.eq (.ref 2) true x y)
  | .eql, some (.struct _) => match mem t eqs, flatKs P eqs 20 t with
    | true, some ks => some (.eq (.flat ks) false x y)
    | _, _ => none
  | .neq, some (.struct _) => match mem t eqs, flatKs P eqs 20 t with
    | true, some ks => some (.eq (.flat ks) true x y)
    | _, _ => none
  | _, some (.int _) => some (.bin op x y)
  | _, some .string => some (.bin op x y)
  | _, _ => none
def cCall (news : FuncId → Nat) (c : Call) : Option VOp := match c.callee with
  | .builtin b => match b, c.args.toList, c.argTypes.toList with
    | .len, [x], [t] => match P.underlying t, cX x with
      | some .string, some x => some (.len false x)
      | some (.slice _), some x => some (.len true x)
      | some (.array n _), _ => some (.lenc n)
      | _, _ => none
    | .min, [x, y], [t, _] => match P.underlying t, cX x, cX y with
      | some (.int _), some x, some y => some (.mnx false x y)
      | _, _, _ => none
    | .max, [x, y], [t, _] => match P.underlying t, cX x, cX y with
      | some (.int _), some x, some y => some (.mnx true x y)
      | _, _, _ => none
    | .append, [x, y], [t, u] => match Nat.beq t u, P.underlying t, cX x, cX y with
      | true, some (.slice e), some x, some y => match P.info? e, zeroL P e with
        | some i, some z => match Nat.beq (lenS z) i.size, Nat.ble 1 i.bytes with
          | true, true => some (.app i.size i.bytes x y)
          | _, _ => none
        | _, _ => none
      | _, _, _, _ => none
    | _, _, _ => none
  | .value (.func f) => match cXs c.args.toList with
    | some xs => some (.call f xs (news f))
    | none => none
  | .value x => match cX x, cXs c.args.toList with
    | some x, some xs => some (.callv x xs 0)
    | _, _ => none
  | .invoke _ _ => none
def cConv (src dst : TypeId) (x : VX) : Option VOp := match P.underlying src, P.underlying dst with
  | some (.int _), some (.int k) => some (.cvi k x)
  | some .string, some .string => some (.cvs x)
  | some .string, some (.slice e) => match P.underlying e with
    | some (.int .u8) => some (.s2b x)
    | _ => none
  | some (.slice e), some .string => match P.underlying e with
    | some (.int .u8) => some (.b2s x)
    | _ => none
  | _, _ => none
def cOp (news : FuncId → Nat) : Op → Option VOp
  | .move x | .assign x => match cX x with
    | some x => some (.mv x)
    | none => none
  | .pick c a b => match cX c, cX a, cX b with
    | some c, some a, some b => some (.pick c a b)
    | _, _, _ => none
  | .alloc t => match zeroL P t with
    | some l => some (.new l)
    | none => none
  | .box t x => match cX x with
    | some x => some (.box x)
    | none => none
  | .build t parts => match zeroL P t, P.underlying t with
    | some z, some (.struct fs) => match fs.toList.all (fun f => (P.info? f.type).isSome), cParts (placeF P fs) parts.toList with
      | true, some ps => some (.bld z ps)
      | _, _ => none
    | some z, some (.array _ e) => match P.info? e with
      | some i => match cParts (fun k => some (k * i.size, i.size)) parts.toList with
        | some ps => some (.bld z ps)
        | none => none
      | none => none
    | _, _ => none
  | .buildSlice t n parts => match P.underlying t with
    | some (.slice e) => match P.info? e, zeroL P e with
      | some i, some z => match Nat.beq (lenS z) i.size, Nat.ble (n * i.size) 16777216, cParts (fun k => some (k * i.size, i.size)) parts.toList with
        | true, true, some ps => some (.bsl n (repeatL z n) ps)
        | _, _, _ => none
      | _, _ => none
    | _ => none
  | .load t x => match aggT P t, cX x with
    | some a, some x => some (.ld a x)
    | _, _ => none
  | .store t x v => match P.info? t, cX x, cX v with
    | some i, some x, some v => some (.st i.size x v)
    | _, _, _ => none
  | .nilCheck x => match cX x with
    | some x => some (.nilc x)
    | none => none
  | .binOp op t x y _ => match cX x, cX y with
    | some x, some y => cBin P eqs op t x y
    | _, _ => none
  | .unOp op _ x => match cX x with
    | some x => some (.un op x)
    | none => none
  | .convert s d x => match cX x with
    | some x => cConv P s d x
    | none => none
  | .makeFunc (.func f) first caps => match first.toList, cXs caps.toList with
    | [], some cs => some (.mkf f cs)
    | _, _ => none
  | .slice t x lo hi none => match P.underlying t, cX x, cXo lo, cXo hi with
    | some .string, some x, some lo, some hi => some (.sls x lo hi)
    | some (.slice e), some x, some lo, some hi => match P.info? e with
      | some i => some (.sll i.size x lo hi)
      | none => none
    | some (.array n e), some x, some lo, some hi => match P.info? e with
      | some i => some (.sla n i.size x lo hi)
      | none => none
    | _, _, _, _ => none
  | .fieldAddr t x k => match P.underlying t, cX x with
    | some (.struct fs), some x => match fs[k]? with
      | some f => match P.info? f.type with
        | some i => match i.size with
          | 0 => none
          | _ + 1 => some (.fad f.offset x)
        | none => none
      | none => none
    | _, _ => none
  | .field t x k => match P.underlying t, cX x with
    | some (.struct fs), some x => match fs[k]? with
      | some f => match aggT P f.type with
        | some a => some (.fld f.offset a x)
        | none => none
      | none => none
    | _, _ => none
  | .indexAddr t x i => match P.underlying t, cX x, cX i with
    | some (.slice e), some x, some i => match P.info? e with
      | some inf => some (.iad inf.size x i)
      | none => none
    | some (.array n e), some x, some i => match P.info? e with
      | some inf => some (.iaa n inf.size x i)
      | none => none
    | _, _, _ => none
  | .index t x i => match P.underlying t, cX x, cX i with
    | some .string, some x, some i => some (.ixs x i)
    | some (.array n e), some x, some i => match P.info? e, aggT P e with
      | some inf, some a => some (.ixa n inf.size a x i)
      | _, _ => none
    | _, _, _ => none
  | .extract x i => match cX x with
    | some x => some (.ext i x)
    | none => none
  | .makeSlice t n m => match P.underlying t, cX n, cX m with
    | some (.slice e), some n, some m => match P.info? e, zeroL P e with
      | some i, some z => match Nat.beq (lenS z) i.size, Nat.ble 1 i.bytes with
        | true, true => some (.mks i.size i.bytes z n m)
        | _, _ => none
      | _, _ => none
    | _, _, _ => none
  | .call c => cCall P news c
  | _ => none
def newsOf : VOp → Nat
  | .new _ | .box _ | .bsl _ _ _ | .s2b _ | .app _ _ _ _ | .mks _ _ _ _ _ => 1
  | .call _ _ n => n
  | .callv _ _ n => n
  | _ => 0
/-- A region's operations; n: how many slots there are. -/
def cOps (news : FuncId → Nat) (n : Nat) (all : Array Oper) : List Oper → Nat → Option (List VOper × Nat)
  | [], off => some ([], off)
  | o :: os, off => match cOp P eqs news o.op, (match o.guard with
      | none => some none
      | some (j, want) => match all[j]? with
        | some g => match g.dst with
          | some d => match Nat.ble (d + 1) n with
            | true => some (some (d, want))
            | false => none
          | none => none
        | none => none : Option (Option (Nat × Bool))), (match o.dst with
      | none => true
      | some d => Nat.ble (d + 1) n) with
    | some v, some g, true => match cOps news n all os (off + newsOf v) with
      | some (r, tot) => some (⟨o.dst, v, g, off⟩ :: r, tot)
      | none => none
    | _, _, _ => none
/-- Which operations come ahead of each, as bits. -/
def getM : List Nat → Nat → Nat
  | [], _ => 0
  | x :: _, 0 => x
  | _ :: l, n + 1 => getM l n
def maskOf (acc : List Nat) : List Edge → Nat
  | [] => 0
  | e :: l => match Region.binds .any e with
    | true => ((1 <<< e.on) ||| getM acc e.on) ||| maskOf acc l
    | false => maskOf acc l
def masksGo : List Oper → List Nat → List Nat
  | [], acc => acc
  | o :: os, acc => match maskOf acc o.after.toList with
    | 0 => masksGo os (snoc acc 0)
    | n + 1 => masksGo os (snoc acc (n + 1))
def rowPairs (m j : Nat) : Nat → Nat → List (Nat × Nat)
  | 0, _ => []
  | f + 1, i => match Nat.testBit m i with
    | true => rowPairs m j f (i + 1)
    | false => (i, j) :: rowPairs m j f (i + 1)
def pairsGo : List Nat → Nat → List (Nat × Nat)
  | [], _ => []
  | m :: l, j => rowPairs m j j 0 ++ pairsGo l (j + 1)
/-- The pairs of operations of which neither need come first. -/
def pairsOf (ops : Array Oper) : List (Nat × Nat) := pairsGo (masksGo ops.toList []) 0
def rdX : VX → List Nat
  | .t n => [n]
  | .c _ => []
def rdO : Option VX → List Nat
  | none => []
  | some x => rdX x
def rdXs : List VX → List Nat
  | [] => []
  | x :: l => rdX x ++ rdXs l
def rdP : List (Nat × Nat × VX) → List Nat
  | [] => []
  | (_, _, x) :: l => rdX x ++ rdP l
def readsOf : VOp → List Nat
  | .mv x => rdX x
  | .pick c a b => rdX c ++ (rdX a ++ rdX b)
  | .new _ => []
  | .box x => rdX x
  | .bld _ ps => rdP ps
  | .bsl _ _ ps => rdP ps
  | .ld _ x => rdX x
  | .st _ x v => rdX x ++ rdX v
  | .nilc x => rdX x
  | .bin _ x y => rdX x ++ rdX y
  | .eq _ _ x y => rdX x ++ rdX y
  | .un _ x => rdX x
  | .cvi _ x => rdX x
  | .cvs x => rdX x
  | .s2b x => rdX x
  | .b2s x => rdX x
  | .mkf _ cs => rdXs cs
  | .sls x lo hi => rdX x ++ (rdO lo ++ rdO hi)
  | .sll _ x lo hi => rdX x ++ (rdO lo ++ rdO hi)
  | .sla _ _ x lo hi => rdX x ++ (rdO lo ++ rdO hi)
  | .fad _ x => rdX x
  | .fld _ _ x => rdX x
  | .iad _ x i => rdX x ++ rdX i
  | .iaa _ _ x i => rdX x ++ rdX i
  | .ixs x i => rdX x ++ rdX i
  | .ixa _ _ _ x i => rdX x ++ rdX i
  | .ext _ x => rdX x
  | .len _ x => rdX x
  | .lenc _ => []
  | .app _ _ x y => rdX x ++ rdX y
  | .apps x y => rdX x ++ rdX y
  | .mks _ _ _ n m => rdX n ++ rdX m
  | .mnx _ x y => rdX x ++ rdX y
  | .call _ xs _ => rdXs xs
  | .callv x xs _ => rdX x ++ rdXs xs
def readsV (v : VOper) : List Nat := match v.guard with
  | none => readsOf v.op
  | some (g, _) => g :: readsOf v.op
def outOf (d : Option Nat) (l : List Nat) : Bool := match d with
  | none => true
  | some d => !mem d l
def apartV (x y : VOper) : Bool := outOf x.dst (readsV y) && (outOf y.dst (readsV x) && outOf x.dst y.dst.toList)
def getV : List VOper → Nat → Option VOper
  | [], _ => none
  | x :: _, 0 => some x
  | _ :: l, n + 1 => getV l n
def apartAll (vs : List VOper) : List (Nat × Nat) → Bool
  | [] => true
  | (i, j) :: l => match getV vs i, getV vs j with
    | some x, some y => apartV x y && apartAll vs l
    | _, _ => false
/-- Each edge goes back. -/
def backB : List Oper → Nat → Bool
  | [], _ => true
  | o :: os, i => o.after.toList.all (fun e => !Region.binds .any e || Nat.ble (e.on + 1) i) && backB os (i + 1)
/-- A label, and what stands behind it. -/
def vlabel : VCode → Option Nat
  | .label l => some l
  | .seq a b => match vlabel a with
    | some l => some l
    | none => vlabel b
  | _ => none
def vfind : VCode → Nat → Option VCode
  | .seq a b, l => match vfind a l with
    | some r => some (.seq r b)
    | none => vfind b l
  | .label k, l => match Nat.beq k l with
    | true => some .skip
    | false => none
  | _, _ => none
def cCode (news : FuncId → Nat) (n : Nat) : Code → Option VCode
  | .skip => some .skip
  | .region _ ops draw => match cOps P eqs news n ops ops.toList 0 with
    | some (r, tot) => match draw with
      | false => some (.reg r tot none)
      | true => match apartAll r (pairsOf ops), backB ops.toList 0 with
        | true, true => some (.reg r tot (some (pairsOf ops)))
        | _, _ => none
    | none => none
  | .seq a b => match cCode news n a, cCode news n b with
    | some a, some b => some (.seq a b)
    | _, _ => none
  | .cond x a b => match cX x, cCode news n a, cCode news n b with
    | some x, some a, some b => some (.cond x a b)
    | _, _, _ => none
  | .block id c => match cCode news n c with
    | some c => some (.block id c)
    | none => none
  | .loop c => match cCode news n c with
    | some c => some (.loop c)
    | none => none
  | .scope c => match cCode news n c with
    | some c => match vlabel c with
      | some l => match vfind c l with
        | some r => some (.scope l c r)
        | none => none
      | none => none
    | none => none
  | .exit id => some (.exit id)
  | .label l => some (.label l)
  | .goto l => some (.goto l)
  | .ret => some .ret
  | _ => none
def cRes : List ResultVar → Option (List VRes)
  | [] => some []
  | .tmp t :: r => match cRes r with
    | some l => some (.tmp t :: l)
    | none => none
  | .cell t ty :: r => match aggT P ty, cRes r with
    | some a, some l => some (.cell t a :: l)
    | _, _ => none
def cFn (news : FuncId → Nat) (keep : List Nat) (fn : Func) : Option VFn := match fn.body with
  | some c => match cCode P eqs news fn.ntmps c, cRes P fn.results.toList with
    | some c, some r => some ⟨c, r, fn.ntmps, keep⟩
    | _, _ => none
  | none => none
end
end Go.Proofs.Ytnmeeafnobfobaa.VM
