/- A small evaluator of the model's operations over values that name memory by number: the definitions. -/
import Derived.Calls
import Derived.Below
import Derived.Orders
namespace Go.Proofs.Ytnmeeafnobfobaa.VM
open Go.RowKit
set_option linter.unusedVariables false

structure Place where
  blk : Nat
  base : Nat
  fin : Nat
abbrev PMap := Nat → Option Place
inductive Cap where
  | is (n : Nat)
  | upto (size : Nat)
inductive SV where
  | int (k : IntKind) (n : Int)
  | bool (b : Bool)
  | str (s : ByteArray)
  | ptr (b o : Nat)
  | nilp
  | slc (b o len : Nat) (c : Cap)
  | nils
  | fn (f : FuncId) (caps : List (Nat × Nat))
  | nilfn
inductive PV where
  | o (s : SV)
  | a (l : List SV)
inductive V where
  | p (x : PV)
  | t (l : List PV)
inductive Row where
  | dead
  | row (rw sym : Bool) (l : List SV)
abbrev Slots := List (Nat × V)
inductive VX where
  | t (n : Nat)
  | c (v : V)
def look : Slots → Nat → Option V
  | [], _ => none
  | (k, v) :: r, t => match Nat.beq k t with
    | true => some v
    | false => look r t
abbrev Env := Nat → Option V
def env (L : Env) : VX → Option V
  | .t n => L n
  | .c v => some v
def rowAt : List Row → Nat → Row
  | [], _ => .dead
  | r :: _, 0 => r
  | _ :: l, n + 1 => rowAt l n
def takeN : List SV → Nat → Option (List SV)
  | _, 0 => some []
  | [], _ + 1 => none
  | x :: l, n + 1 => match takeN l n with
    | some c => some (x :: c)
    | none => none
def dropN : List SV → Nat → List SV
  | l, 0 => l
  | [], _ + 1 => []
  | _ :: l, n + 1 => dropN l n
def getN (l : List SV) (o n : Nat) : Option (List SV) := takeN (dropN l o) n
def nth : List SV → Nat → Option SV
  | [], _ => none
  | x :: _, 0 => some x
  | _ :: l, n + 1 => nth l n
def over : List SV → List SV → List SV
  | l, [] => l
  | [], _ => []
  | _ :: l, y :: c => y :: over l c
def setN : List SV → Nat → List SV → List SV
  | l, 0, c => over l c
  | [], _ + 1, _ => []
  | x :: l, n + 1, c => x :: setN l n c
def setRow : List Row → Nat → Row → List Row
  | [], _, _ => []
  | _ :: l, 0, r => r :: l
  | x :: l, n + 1, r => x :: setRow l n r
def setRows : List Row → List (Nat × Row) → List Row
  | M, [] => M
  | M, (i, r) :: l => setRows (setRow M i r) l
def numbered (nid : Nat) : List Row → List (Nat × Row)
  | [] => []
  | r :: l => (nid, r) :: numbered (nid + 1) l
structure Eff where
  val : Option V
  wr : List (Nat × Row)
  new : List Row
  foot : List Nat
def app (M : List Row) (e : Eff) (nid : Nat) : List Row := setRows M (e.wr ++ numbered nid e.new)

/-! forcing: each is its continuation at the very value -/
def small : List Nat := [0, 1, 2, 3, 4, 5, 6, 7, 8, 9, 10, 11, 12, 13, 14, 15, 16, 17, 18, 19, 20, 21, 22, 23, 24, 25, 26, 27, 28, 29, 30, 31, 32, 33, 34, 35, 36, 37, 38, 39, 40, 41, 42, 43, 44, 45, 46, 47, 48, 49, 50, 51, 52, 53, 54, 55, 56, 57, 58, 59, 60, 61, 62, 63, 64]
def forceNat (n : Nat) (K : Nat → Prop) : List Nat → Prop
  | [] => K n
  | k :: ks => match Nat.beq n k with
    | true => K k
    | false => forceNat n K ks
def forceN (n : Nat) (K : Nat → Prop) : Prop := forceNat n K small
def forceNL : List Nat → (List Nat → Prop) → Prop
  | [], K => K []
  | n :: l, K => forceN n fun n => forceNL l fun l => K (n :: l)
def forceCaps : List (Nat × Nat) → (List (Nat × Nat) → Prop) → Prop
  | [], K => K []
  | (b, o) :: l, K => forceN b fun b => forceCaps l fun l => K ((b, o) :: l)
def SV.force : SV → (SV → Prop) → Prop
  | .int k n, K => K (.int k n)
  | .bool b, K => K (.bool b)
  | .str s, K => K (.str s)
  | .ptr b o, K => forceN b fun b => K (.ptr b o)
  | .nilp, K => K .nilp
  | .slc b o l c, K => forceN b fun b => K (.slc b o l c)
  | .nils, K => K .nils
  | .fn f c, K => forceCaps c fun c => K (.fn f c)
  | .nilfn, K => K .nilfn
def forceL : List SV → (List SV → Prop) → Prop
  | [], K => K []
  | s :: l, K => s.force fun s => forceL l fun l => K (s :: l)
def PV.force : PV → (PV → Prop) → Prop
  | .o s, K => s.force fun s => K (.o s)
  | .a l, K => forceL l fun l => K (.a l)
def forcePL : List PV → (List PV → Prop) → Prop
  | [], K => K []
  | s :: l, K => s.force fun s => forcePL l fun l => K (s :: l)
def V.force : V → (V → Prop) → Prop
  | .p x, K => x.force fun x => K (.p x)
  | .t l, K => forcePL l fun l => K (.t l)
def Row.force : Row → (Row → Prop) → Prop
  | .dead, K => K .dead
  | .row rw true l, K => K (.row rw true l)
  | .row rw false l, K => forceL l fun l => K (.row rw false l)
def forceM : List Row → (List Row → Prop) → Prop
  | [], K => K []
  | r :: l, K => r.force fun r => forceM l fun l => K (r :: l)

/-! where the evaluation stops -/
structure Arith (k : IntKind) (e : Int) (K : Int → Prop) : Prop where
  run : K (k.wrap e)
structure Test (b : Bool) (A B : Prop) : Prop where
  yes : b = true → A
  no : b = false → B
structure Need (p : Prop) (A : Prop) : Prop where
  pf : p
  go : A
structure Look (l : List SV) (i : Nat) (K : SV → Prop) : Prop where
  ex : ∃ s, nth l i = some s ∧ K s
structure LookN (l : List SV) (o n : Nat) (K : List SV → Prop) : Prop where
  ex : ∃ c, getN l o n = some c ∧ K c
def bytesOf : List SV → Option (List UInt8)
  | [] => some []
  | .int .u8 n :: l => match bytesOf l with
    | some r => some (UInt8.ofNat n.toNat :: r)
    | none => none
  | _ => none
structure BytesW (c : List SV) (K : List UInt8 → Prop) : Prop where
  ex : ∃ bs, bytesOf c = some bs ∧ K bs

/-! what a value names -/
def capIds : List (Nat × Nat) → List Nat
  | [] => []
  | (b, _) :: l => b :: capIds l
def SV.ids : SV → List Nat
  | .ptr b _ => [b]
  | .slc b _ _ _ => [b]
  | .fn _ caps => capIds caps
  | _ => []
def idsL : List SV → List Nat
  | [] => []
  | s :: l => s.ids ++ idsL l
def PV.ids : PV → List Nat
  | .o s => s.ids
  | .a l => idsL l
def idsPL : List PV → List Nat
  | [] => []
  | s :: l => s.ids ++ idsPL l
def V.ids : V → List Nat
  | .p x => x.ids
  | .t l => idsPL l
def Row.ids : Row → List Nat
  | .row _ false l => idsL l
  | _ => []
def mem (b : Nat) : List Nat → Bool
  | [] => false
  | c :: l => match Nat.beq b c with
    | true => true
    | false => mem b l
def reach (M : List Row) : Nat → List Nat → List Nat → List Nat
  | 0, _, seen => seen
  | _ + 1, [], seen => seen
  | f + 1, b :: todo, seen => match mem b seen with
    | true => reach M f todo seen
    | false => reach M f ((rowAt M b).ids ++ todo) (seen ++ [b])
def allIn : List Nat → List Nat → Bool
  | [], _ => true
  | b :: l, ids => mem b ids && allIn l ids
def closedB (M : List Row) (ids : List Nat) : List Nat → Bool
  | [] => true
  | b :: l => allIn (rowAt M b).ids ids && closedB M ids l
def nodupB : List Nat → Bool
  | [] => true
  | b :: l => !mem b l && nodupB l
def okIds (M : List Row) (roots ids : List Nat) : Bool := allIn roots ids && (closedB M ids ids && nodupB ids)
def idx (b : Nat) : List Nat → Nat
  | [] => 0
  | c :: l => match Nat.beq b c with
    | true => 0
    | false => idx b l + 1
def back (ids : List Nat) (nid : Nat) (k : Nat) : Nat := match ids, k with
  | [], k => nid + k
  | c :: _, 0 => c
  | _ :: l, k + 1 => back l nid k
def renCaps (g : Nat → Nat) : List (Nat × Nat) → List (Nat × Nat)
  | [] => []
  | (b, o) :: l => (g b, o) :: renCaps g l
def SV.ren (g : Nat → Nat) : SV → SV
  | .ptr b o => .ptr (g b) o
  | .slc b o l c => .slc (g b) o l c
  | .fn f caps => .fn f (renCaps g caps)
  | s => s
def renL (g : Nat → Nat) : List SV → List SV
  | [] => []
  | s :: l => s.ren g :: renL g l
def PV.ren (g : Nat → Nat) : PV → PV
  | .o s => .o (s.ren g)
  | .a l => .a (renL g l)
def renPL (g : Nat → Nat) : List PV → List PV
  | [] => []
  | s :: l => s.ren g :: renPL g l
def V.ren (g : Nat → Nat) : V → V
  | .p x => .p (x.ren g)
  | .t l => .t (renPL g l)
def Row.ren (g : Nat → Nat) : Row → Row
  | .row rw false l => .row rw false (renL g l)
  | r => r
def rowsAt (M : List Row) (g : Nat → Nat) : List Nat → List Row
  | [] => []
  | b :: l => (rowAt M b).ren g :: rowsAt M g l
def renRows (g : Nat → Nat) : List Row → List Row
  | [] => []
  | r :: l => r.ren g :: renRows g l
def zipIds : List Nat → List Row → List (Nat × Row)
  | b :: l, r :: M => (b, r) :: zipIds l M
  | _, _ => []
def dropRows : List Row → Nat → List Row
  | l, 0 => l
  | [], _ + 1 => []
  | _ :: l, n + 1 => dropRows l n
def lenR : List Row → Nat
  | [] => 0
  | _ :: l => lenR l + 1
def lenI : List Nat → Nat
  | [] => 0
  | _ :: l => lenI l + 1
def lenS : List SV → Nat
  | [] => 0
  | _ :: l => lenS l + 1

/-! values and memory as the model has them -/
def Cap.Is (p : Place) (o len cap : Nat) : Cap → Prop
  | .is n => cap = n
  | .upto size => p.base + o + cap * size ≤ p.fin
def capsIs (ρ : PMap) : List (Nat × Nat) → List Value → Prop
  | [], vs => vs = []
  | c :: l, vs => ∃ p r, ρ c.1 = some p ∧ vs = .pointer (some ⟨p.blk, p.base + c.2, none⟩) :: r ∧ capsIs ρ l r
def SV.Is (ρ : PMap) : SV → Value → Prop
  | .int k n, v => v = .int k n
  | .bool b, v => v = .bool b
  | .str s, v => v = .string s
  | .ptr b o, v => ∃ p, ρ b = some p ∧ v = .pointer (some ⟨p.blk, p.base + o, none⟩)
  | .nilp, v => v = .pointer none
  | .slc b o len c, v => ∃ p a cap, ρ b = some p ∧ v = .slice (some a) len cap ∧ (cap = 0 ∨ a = ⟨p.blk, p.base + o, none⟩) ∧ len ≤ cap ∧ c.Is p o len cap
  | .nils, v => v = .slice none 0 0
  | .fn f caps, v => ∃ vs, v = .func (.func f) #[] vs ∧ capsIs ρ caps vs.toList
  | .nilfn, v => v = .nilFunc
def isL (ρ : PMap) : List SV → List Value → Prop
  | [], vs => vs = []
  | s :: l, vs => ∃ v r, vs = v :: r ∧ s.Is ρ v ∧ isL ρ l r
def PV.Is (ρ : PMap) : PV → Value → Prop
  | .o s, v => s.Is ρ v
  | .a l, v => ∃ c, v = .agg c ∧ isL ρ l c.toList
def isPL (ρ : PMap) : List PV → List Value → Prop
  | [], vs => vs = []
  | s :: l, vs => ∃ v r, vs = v :: r ∧ s.Is ρ v ∧ isPL ρ l r
def V.Is (ρ : PMap) : V → Value → Prop
  | .p x, v => x.Is ρ v
  | .t l, v => ∃ c, v = .tuple c ∧ isPL ρ l c.toList
def SV.flat : SV → Bool
  | .int _ _ | .bool _ | .str _ | .nilp | .nils | .nilfn => true
  | _ => false
/-- Row r lies at place p. -/
def RowOk (ρ : PMap) (w : World) (p : Place) : Row → Prop
  | .dead => True
  | .row rw sym l =>
    p.blk < w.heap.size ∧ (∀ i s, nth l i = some s → ∃ v, s.Is ρ v ∧ w.cell? ⟨p.blk, p.base + i, none⟩ = some v) ∧
    (sym = true → ∀ i s, nth l i = some s → s.flat = true) ∧
    (rw = true → p.base + lenS l ≤ p.fin ∧ ∃ c T lo hi, w.heap[p.blk]? = some (.cells c T (lo, hi)) ∧ c.size = p.fin ∧ (lo = hi ∨ p.fin ≤ lo))
def Row.rw : Row → Bool
  | .dead => false
  | .row rw _ _ => rw
def Row.live : Row → Bool
  | .dead => false
  | .row _ _ _ => true
structure Rep (ρ : PMap) (M : List Row) (w : World) : Prop where
  dom : ∀ b p, ρ b = some p → b < lenR M
  rows : ∀ b, (rowAt M b).live = true → ∃ p, ρ b = some p ∧ RowOk ρ w p (rowAt M b)
  apart : ∀ b c p q, b ≠ c → (rowAt M b).rw = true → (rowAt M c).live = true → ρ b = some p → ρ c = some q → p.blk ≠ q.blk
def Owned (ρ : PMap) (M : List Row) (k : Nat) : Prop := ∃ b p, (rowAt M b).rw = true ∧ ρ b = some p ∧ p.blk = k
/-- From one state to a later one. -/
structure Ev (ρ : PMap) (M : List Row) (w : World) (ρ' : PMap) (M' : List Row) (w' : World) : Prop where
  ext : ∀ b p, ρ b = some p → ρ' b = some p
  os : w'.os = w.os
  tape : w'.tape = w.tape
  output : w'.output = w.output
  size : w.heap.size ≤ w'.heap.size
  frame : ∀ k, k < w.heap.size → ¬ Owned ρ M k → w'.heap[k]? = w.heap[k]?
  owned : ∀ k, Owned ρ' M' k → Owned ρ M k ∨ w.heap.size ≤ k
  fresh : ∀ b p, (rowAt M' b).live = true → ρ' b = some p → ((rowAt M b).live = true ∧ ρ b = some p) ∨ w.heap.size ≤ p.blk ∨ Owned ρ M p.blk
def Ent (P : Program) (f : FuncId) : Prop := ∃ fn, P.funcs[f]? = some fn ∧ (fn.name == "runtime.NumGoroutine") = false ∧ fn.body.isNone = false
/-- Function f, called with these arguments over this memory, ends as R says. -/
structure Can (P : Program) (f : FuncId) (args : List PV) (M : List Row) (R : V → List Row → Prop) : Prop where
  ent : Ent P f
  run : ∀ (ρ : PMap) (w : World) (vs : List Value), Rep ρ M w → isPL ρ args vs →
    Calls P f vs.toArray w fun e w' => ∃ u v M' ρ', e = .returned u ∧ R v M' ∧ v.Is ρ' u ∧ Rep ρ' M' w' ∧ Ev ρ M w ρ' M' w' ∧ ∀ b, b < lenR M → ρ' b = ρ b
def Det (P : Program) (f : FuncId) (args : List PV) (M : List Row) (v : V) (M' : List Row) : Prop :=
  Can P f args M fun v' M'' => v' = v ∧ M'' = M'
structure CallW (P : Program) (d : Bool) (f : FuncId) (args : List PV) (M : List Row) (K : V → List Row → Prop) : Prop where
  ex : (∃ v M', Det P f args M v M' ∧ K v M') ∨ (d = false ∧ ∃ R, Can P f args M R ∧ ∀ v M', R v M' → K v M')
theorem CallW.det {P : Program} {d : Bool} {f : FuncId} {args : List PV} {M M' : List Row} {v : V} {K : V → List Row → Prop} (h : Det P f args M v M') (k : K v M') : CallW P d f args M K :=
  ⟨.inl ⟨v, M', h, k⟩⟩
theorem CallW.can {P : Program} {f : FuncId} {args : List PV} {M : List Row} {R K : V → List Row → Prop} (h : Can P f args M R) (k : ∀ v M', R v M' → K v M') : CallW P false f args M K :=
  ⟨.inr ⟨rfl, R, h, k⟩⟩
end Go.Proofs.Ytnmeeafnobfobaa.VM
