/- Where the evaluation stops, law by law; from a contract to a row and back. -/
import Derived.Test.YtmdfkggflainbaaVmQ
import Derived.Test.YtmdfkggflainbaaVmFl
namespace Go.Proofs.Ytmdfkggflainbaa.VM
open Go.RowKit Go.ChangeShapes Go.WideShapes
set_option linter.unusedVariables false
set_option linter.unusedSimpArgs false
theorem Arith.inr {k : IntKind} {e : Int} {K : Int → Prop} (h : k.wrap e = e) (g : K e) : Arith k e K := ⟨h.symm ▸ g⟩
theorem Arith.i64 {e : Int} {K : Int → Prop} (h : -9223372036854775808 ≤ e ∧ e ≤ 9223372036854775807) (g : K e) : Arith .i64 e K := .inr (by rw [IntKind.wrap_i64]; omega) g
theorem Arith.i32 {e : Int} {K : Int → Prop} (h : -2147483648 ≤ e ∧ e ≤ 2147483647) (g : K e) : Arith .i32 e K := .inr (by rw [IntKind.wrap_i32]; omega) g
theorem Arith.u64 {e : Int} {K : Int → Prop} (h : 0 ≤ e ∧ e ≤ 18446744073709551615) (g : K e) : Arith .u64 e K := .inr (by rw [IntKind.wrap_u64]; omega) g
theorem Arith.u32 {e : Int} {K : Int → Prop} (h : 0 ≤ e ∧ e ≤ 4294967295) (g : K e) : Arith .u32 e K := .inr (by rw [IntKind.wrap_u32]; omega) g
theorem Arith.u16 {e : Int} {K : Int → Prop} (h : 0 ≤ e ∧ e ≤ 65535) (g : K e) : Arith .u16 e K := .inr (by rw [IntKind.wrap_u16]; omega) g
theorem Arith.u8 {e : Int} {K : Int → Prop} (h : 0 ≤ e ∧ e ≤ 255) (g : K e) : Arith .u8 e K := .inr (by rw [IntKind.wrap_u8]; omega) g
theorem Test.tt {A B : Prop} (a : A) : Test true A B := ⟨(fun _ => a), (fun h => by cases h)⟩
theorem Test.ff {A B : Prop} (a : B) : Test false A B := ⟨(fun h => by cases h), (fun _ => a)⟩
theorem Test.dt {p : Prop} [Decidable p] {A B : Prop} (h : p) (a : A) : Test (decide p) A B := ⟨fun _ => a, fun h' => absurd h (of_decide_eq_false h')⟩
theorem Test.df {p : Prop} [Decidable p] {A B : Prop} (h : ¬ p) (a : B) : Test (decide p) A B := ⟨fun h' => absurd (of_decide_eq_true h') h, fun _ => a⟩
theorem Test.d {p : Prop} [Decidable p] {A B : Prop} (a : p → A) (b : ¬ p → B) : Test (decide p) A B := ⟨fun h => a (of_decide_eq_true h), fun h => b (of_decide_eq_false h)⟩
theorem Test.b {b : Bool} {A B : Prop} (h : b = true) (a : A) : Test b A B := by subst h; exact .tt a
theorem Test.nb {b : Bool} {A B : Prop} (h : b = false) (a : B) : Test b A B := by subst h; exact .ff a

/-! from a contract to a row, and back -/
variable {G : Ground} {P : Program}
theorem rep_none (w : World) : Rep (fun _ => none) [] w := ⟨fun _ _ h => (by cases h), fun b h => (by simp [rowAt, Row.live] at h), fun b c p q k _ h => (by simp [rowAt, Row.rw] at h)⟩
theorem Ev.below {ρ ρ' : PMap} {M M' : List Row} {w w' : World} (h : Ev ρ M w ρ' M' w') (hM : ∀ b, (rowAt M b).rw = false) : Below w.heap.size w w' :=
  ⟨h.os, h.tape, h.output, h.size, fun k hk => h.frame k hk fun ⟨b, p, hb, _⟩ => by rw [hM b] at hb; cases hb⟩
/-- A law over flat arguments, called as the row calls it. -/
theorem calls_flat {f : FuncId} {vals : List PV} {vs : List Value} {v : V} {u : Value} (h : Can G P f vals [] (fun x _ => x = v)) (hv : isPL (fun _ => none) vals vs) (hu : ∀ ρ u', v.Is ρ u' → u' = u) (w : World) (hL : Low G (fun _ => none) [] w) :
    Calls P f vs.toArray w fun e w' => e = .returned u ∧ Below w.heap.size w w' := by
  refine (h.run _ w vs (rep_none w) hL hv).mono ?_
  rintro e w' ⟨u', v', M', ρ', rfl, rfl, hI, _, hE, _⟩
  exact ⟨by rw [hu _ _ hI], hE.below fun b => by simp [rowAt, Row.rw]⟩
theorem Rep.below {ρ : PMap} {M : List Row} {w w' : World} (h : Rep ρ M w) (hb : Below w.heap.size w w') : Rep ρ M w' := h.same hb.size (fun k hk => hb.block k hk)
theorem Ev.of_below {ρ : PMap} {M : List Row} {w w' : World} (h : Rep ρ M w) (hb : Below w.heap.size w w') : Ev ρ M w ρ M w' := .same h hb.os hb.tape hb.output hb.size (fun k hk => hb.block k hk)
theorem low_zero {w0 w : World} {ρ : PMap} {M : List Row} : Low ⟨w0, 0⟩ ρ M w := ⟨Nat.zero_le _, fun k hk => absurd hk (Nat.not_lt_zero k), fun _ _ => Nat.zero_le _⟩
/-- An elder contract, of the kit's form, as one of these. -/
theorem det_of_calls {f : FuncId} {vals : List PV} {M : List Row} {v : V} {u : Value} (he : Ent P f) (hu : ∀ ρ, v.Is ρ u) (h : ∀ ρ w vs, Rep ρ M w → Low G ρ M w → isPL ρ vals vs → Calls P f vs.toArray w fun e w' => e = .returned u ∧ Below w.heap.size w w') : Det G P f vals M v M := by
  refine ⟨he, fun ρ w vs hR hL hv => (h ρ w vs hR hL hv).mono ?_⟩
  rintro e w' ⟨rfl, hb⟩
  exact ⟨u, v, M, ρ, rfl, ⟨rfl, rfl⟩, hu ρ, hR.below hb, .of_below hR hb, fun _ _ => rfl⟩
theorem Can.mono {f : FuncId} {vals : List PV} {M : List Row} {R S : V → List Row → Prop} (h : Can G P f vals M R) (hk : ∀ v M', R v M' → S v M') : Can G P f vals M S := by
  refine ⟨h.ent, fun ρ w vs hR hL hv => (h.run ρ w vs hR hL hv).mono ?_⟩
  rintro e w' ⟨u, v, M', ρ', rfl, h1, h2⟩
  exact ⟨u, v, M', ρ', rfl, hk _ _ h1, h2⟩
theorem bool_is {b : Bool} : ∀ ρ u', (vB b).Is ρ u' → u' = .bool b := fun _ _ h => h
def plVal : List PV → List Value
  | [] => []
  | x :: l => pvVal x :: plVal l
def V.val : V → Value
  | .p x => pvVal x
  | .t l => .tuple ⟨plVal l⟩
def flatPL : List PV → Bool
  | [] => true
  | x :: l => flatP x && flatPL l
def flatV : V → Bool
  | .p x => flatP x
  | .t l => flatPL l
theorem pl_iff {ρ : PMap} : ∀ {l : List PV} {vs : List Value}, flatPL l = true → (isPL ρ l vs ↔ vs = plVal l)
  | [], vs, h => Iff.rfl
  | s :: l, vs, h => by
    simp only [flatPL, Bool.and_eq_true] at h
    constructor
    · rintro ⟨v, r, rfl, h1, h2⟩
      rw [(pv_iff h.1).1 h1, (pl_iff h.2).1 h2]; rfl
    · rintro rfl
      exact ⟨_, _, rfl, (pv_iff h.1).2 rfl, (pl_iff h.2).2 rfl⟩
theorem v_iff {ρ : PMap} {x : V} {v : Value} (h : flatV x = true) : x.Is ρ v ↔ v = x.val := by
  cases x with
  | p s => exact pv_iff h
  | t l =>
    constructor
    · rintro ⟨c, rfl, hc⟩
      have := (pl_iff h).1 hc
      simp only [V.val]; rw [← this]
    · rintro rfl
      exact ⟨_, rfl, (pl_iff h).2 rfl⟩
theorem det_flat {f : FuncId} {vals : List PV} {v : V} (he : Ent P f) (hf : flatPL vals = true) (hv : flatV v = true) (h : ∀ w, Calls P f ⟨plVal vals⟩ w fun e w' => e = .returned v.val ∧ Below w.heap.size w w') : Det G P f vals [] v [] :=
  det_of_calls he (fun ρ => (v_iff hv).2 rfl) fun ρ w vs hR _ hvs => by rw [(pl_iff hf).1 hvs]; exact h w
theorem calls_of_can {f : FuncId} {vals : List PV} {v : V} (h : Can G P f vals [] (fun x _ => x = v)) (hf : flatPL vals = true) (hv : flatV v = true) (w : World) (hL : Low G (fun _ => none) [] w) :
    Calls P f ⟨plVal vals⟩ w fun e w' => e = .returned v.val ∧ Below w.heap.size w w' :=
  calls_flat h ((pl_iff hf).2 rfl) (fun _ _ h => (v_iff hv).1 h) w hL
theorem mem_of_mem : ∀ {l : List Nat} {t : Nat}, mem t l = true → t ∈ l
  | [], t, h => by cases h
  | c :: l, t, h => by
    simp only [mem] at h
    split at h
    · rename_i e; rw [Nat.eq_of_beq_eq_true e]; exact .head _
    · exact .tail _ (mem_of_mem h)
theorem known_of {eqs : List Nat} (h : (eqs.all fun t => !P.stoodInHeld t && !P.eqGuardType P.depth t) = true) : Known P eqs := fun t ht => by
  have := List.all_eq_true.1 h t (mem_of_mem ht)
  simpa using this
/-! loops -/
theorem LoopW.unroll {body : (Slots → List Row → Prop) → Slots → List Row → Prop} {sl : Slots} {M : List Row} (h : ∀ X : Slots → List Row → Prop, (∀ sl M, body X sl M → X sl M) → body X sl M) : LoopW body sl M :=
  ⟨fun X hX => hX _ _ (h X hX)⟩
theorem LoopW.rule {body : (Slots → List Row → Prop) → Slots → List Row → Prop} (I : Nat → Slots → List Row → Prop)
    (h : ∀ n sl M, I n sl M → ∀ X : Slots → List Row → Prop, (∀ m, m < n → ∀ sl M, I m sl M → X sl M) → body X sl M) : ∀ n {sl : Slots} {M : List Row}, I n sl M → LoopW body sl M := fun n sl M hI =>
  ⟨fun X hX => by
    induction n using Nat.strongRecOn generalizing sl M with
    | ind n ih => exact hX _ _ (h n sl M hI X fun m hm sl M hm' => ih m hm sl M hm')⟩
/-! rows of bytes -/
theorem repeatL_bytes : ∀ n, repeatL [.int .u8 0] n = bytesSV (List.replicate n 0)
  | 0 => rfl
  | n + 1 => by simp only [repeatL, List.replicate_succ, bytesSV, repeatL_bytes n]; rfl
theorem getN_all {l : List SV} {n : Nat} (h : lenS l = n) : getN l 0 n = some l := by subst h; unfold getN; rw [show dropN l 0 = l by cases l <;> rfl]; exact takeN_all l
theorem bytesOf_bytes : ∀ (l : List UInt8), bytesOf (bytesSV l) = some l
  | [] => rfl
  | b :: l => by
    simp only [bytesSV, bytesOf, bytesOf_bytes l]
    simp
theorem setN_bytes {v : Int} (h : 0 ≤ v ∧ v ≤ 255) : ∀ (l : List UInt8) (i : Nat), setN (bytesSV l) i [.int .u8 v] = bytesSV (l.set i (UInt8.ofNat v.toNat))
  | [], 0 => rfl
  | [], _ + 1 => rfl
  | b :: l, 0 => by
    have e : ((UInt8.ofNat v.toNat).toNat : Int) = v := by simp; omega
    simp only [bytesSV, List.set, e]; cases h : bytesSV l <;> rfl
  | b :: l, i + 1 => by simp only [bytesSV, List.set, setN, setN_bytes h l i]
theorem LookN.bytes {l : List UInt8} {n : Nat} {K : List SV → Prop} (h : l.length = n) (g : K (bytesSV l)) : LookN (bytesSV l) 0 n K := ⟨_, getN_all (by rw [lenS_bytesSV, h]), g⟩
theorem LookN.zeros {n : Nat} {K : List SV → Prop} (g : K (bytesSV (List.replicate n 0))) : LookN (repeatL [.int .u8 0] n) 0 n K := by
  rw [repeatL_bytes]; exact .bytes (by simp) g
theorem LookN.set {l : List UInt8} {n i : Nat} {v : Int} {K : List SV → Prop} (h : l.length = n) (hv : 0 ≤ v ∧ v ≤ 255) (g : K (bytesSV (l.set i (UInt8.ofNat v.toNat)))) : LookN (setN (bytesSV l) i [.int .u8 v]) 0 n K := by
  rw [setN_bytes hv]; exact .bytes (by simp [h]) g
theorem BytesW.bytes {l : List UInt8} {K : List UInt8 → Prop} (g : K l) : BytesW (bytesSV l) K := ⟨_, bytesOf_bytes l, g⟩
theorem Look.byte {s : ByteArray} {i : Nat} {K : SV → Prop} (h : i < s.size) (g : K (.int .u8 (bAt s i))) : Look (bytesSV s.data.toList) i K := by
  refine ⟨_, ?_, g⟩
  rw [nth_bytesSV, bAt, List.getElem?_eq_getElem (by simpa using h)]; rfl
/-- A text with another byte. -/
def setB (s : ByteArray) (i : Nat) (v : Int) : ByteArray := ⟨(s.data.toList.set i (UInt8.ofNat v.toNat)).toArray⟩
theorem setB_size (s : ByteArray) (i : Nat) (v : Int) : (setB s i v).size = s.size := by
  show (List.toArray _).size = s.data.size
  simp
theorem setN_text {s : ByteArray} {i : Nat} {v : Int} (h : 0 ≤ v ∧ v ≤ 255) : setN (bytesSV s.data.toList) i [.int .u8 v] = bytesSV (setB s i v).data.toList := setN_bytes h _ _
theorem Look.setb {s : ByteArray} {i j : Nat} {v : Int} {K : SV → Prop} (h : 0 ≤ v ∧ v ≤ 255) (hj : j < s.size) (g : K (.int .u8 (bAt (setB s i v) j))) : Look (setN (bytesSV s.data.toList) i [.int .u8 v]) j K := by
  rw [setN_text h]; exact .byte (by rw [setB_size]; exact hj) g
theorem LookN.setb {s : ByteArray} {i n : Nat} {v : Int} {K : List SV → Prop} (h : 0 ≤ v ∧ v ≤ 255) (hn : s.size = n) (g : K (bytesSV (setB s i v).data.toList)) : LookN (setN (bytesSV s.data.toList) i [.int .u8 v]) 0 n K := by
  rw [setN_text h]; exact .bytes (by rw [← hn, ← setB_size s i v]; simp) g
theorem Arith.bv8 {z : BitVec IntKind.u8.bits} {K : Int → Prop} (g : K (z.toNat : Int)) : Arith .u8 (z.toNat : Int) K := .u8 (by have h : z.toNat < 256 := z.isLt; omega) g
theorem Arith.bv16 {z : BitVec IntKind.u16.bits} {K : Int → Prop} (g : K (z.toNat : Int)) : Arith .u16 (z.toNat : Int) K := .u16 (by have h : z.toNat < 65536 := z.isLt; omega) g
theorem Arith.bv32 {z : BitVec IntKind.u32.bits} {K : Int → Prop} (g : K (z.toNat : Int)) : Arith .u32 (z.toNat : Int) K := .u32 (by have h : z.toNat < 4294967296 := z.isLt; omega) g
theorem Arith.bv64 {z : BitVec IntKind.u64.bits} {K : Int → Prop} (g : K (z.toNat : Int)) : Arith .u64 (z.toNat : Int) K := .u64 (by have h : z.toNat < 18446744073709551616 := z.isLt; omega) g
theorem bv8_bd (z : BitVec IntKind.u8.bits) : 0 ≤ (z.toNat : Int) ∧ (z.toNat : Int) ≤ 255 := by have h : z.toNat < 256 := z.isLt; omega
theorem bv16_bd (z : BitVec IntKind.u16.bits) : 0 ≤ (z.toNat : Int) ∧ (z.toNat : Int) ≤ 65535 := by have h : z.toNat < 65536 := z.isLt; omega
theorem bv32_bd (z : BitVec IntKind.u32.bits) : 0 ≤ (z.toNat : Int) ∧ (z.toNat : Int) ≤ 4294967295 := by have h : z.toNat < 4294967296 := z.isLt; omega
theorem bv64_bd (z : BitVec IntKind.u64.bits) : 0 ≤ (z.toNat : Int) ∧ (z.toNat : Int) ≤ 18446744073709551615 := by have h : z.toNat < 18446744073709551616 := z.isLt; omega
theorem wrap_u32_bd (n : Int) : 0 ≤ IntKind.u32.wrap n ∧ IntKind.u32.wrap n ≤ 4294967295 := by rw [IntKind.wrap_u32]; omega
theorem wrap_u16_bd (n : Int) : 0 ≤ IntKind.u16.wrap n ∧ IntKind.u16.wrap n ≤ 65535 := by rw [IntKind.wrap_u16]; omega
theorem wrap_u8_bd (n : Int) : 0 ≤ IntKind.u8.wrap n ∧ IntKind.u8.wrap n ≤ 255 := by rw [IntKind.wrap_u8]; omega
theorem bAt_bd (s : ByteArray) (i : Nat) : 0 ≤ bAt s i ∧ bAt s i ≤ 255 := by
  have := (s.data.toList[i]?.getD 0).toNat_lt
  unfold bAt; omega
theorem lenS_text (s : ByteArray) : lenS (bytesSV s.data.toList) = s.size := by rw [lenS_bytesSV]; simp
theorem lenS_zeros (n : Nat) : lenS (repeatL [.int .u8 0] n) = n := by rw [lenS_repeatL]; simp [lenS]
/-! bits -/
theorem ofInt_toNat (n : Nat) (a : Int) (h : 0 ≤ a) (h2 : a < 2 ^ n) : (BitVec.ofInt n a).toNat = a.toNat := by
  rw [BitVec.toNat_ofInt, Int.emod_eq_of_lt h (by simpa using h2)]
theorem bor_nat (n : Nat) (a b : Int) (ha : 0 ≤ a) (ha2 : a < 2 ^ n) (hb : 0 ≤ b) (hb2 : b < 2 ^ n) : (BitVec.ofInt n a ||| BitVec.ofInt n b).toNat = a.toNat ||| b.toNat := by
  rw [BitVec.toNat_or, ofInt_toNat n a ha ha2, ofInt_toNat n b hb hb2]
theorem band_nat (n : Nat) (a b : Int) (ha : 0 ≤ a) (ha2 : a < 2 ^ n) (hb : 0 ≤ b) (hb2 : b < 2 ^ n) : (BitVec.ofInt n a &&& BitVec.ofInt n b).toNat = a.toNat &&& b.toNat := by
  rw [BitVec.toNat_and, ofInt_toNat n a ha ha2, ofInt_toNat n b hb hb2]
theorem bxor_same (n : Nat) (a b : Int) (ha : 0 ≤ a) (ha2 : a < 2 ^ n) (hb : 0 ≤ b) (hb2 : b < 2 ^ n) : ((BitVec.ofInt n a ^^^ BitVec.ofInt n b).toNat : Int) = a ↔ b = 0 := by
  have e := ofInt_toNat n b hb hb2
  have ea := ofInt_toNat n a ha ha2
  constructor
  · intro h
    have h1 : (BitVec.ofInt n a ^^^ BitVec.ofInt n b).toNat = (BitVec.ofInt n a).toNat := by rw [ea]; omega
    have h2 := BitVec.eq_of_toNat_eq h1
    have h3 : BitVec.ofInt n b = 0#n := by
      have := congrArg (BitVec.ofInt n a ^^^ ·) h2
      simpa [← BitVec.xor_assoc] using this
    rw [h3] at e; simp at e; omega
  · rintro rfl
    simp [ea]; omega
theorem or_disj' (a b k : Nat) (h : b < 2 ^ k) : 2 ^ k * a ||| b = 2 ^ k * a + b := (Nat.two_pow_add_eq_or_of_lt h a).symm
theorem or_hi16 (a b : Int) (ha : 0 ≤ a) (ha2 : a ≤ 65535) (hb : 0 ≤ b) (hb2 : b ≤ 65535) : ((BitVec.ofInt IntKind.u32.bits (a * 65536) ||| BitVec.ofInt IntKind.u32.bits b).toNat : Int) = a * 65536 + b := by
  rw [bor_nat _ _ _ (by omega) (show _ < (4294967296 : Int) by omega) hb (show _ < (4294967296 : Int) by omega)]
  obtain ⟨m, rfl⟩ := Int.eq_ofNat_of_zero_le ha
  obtain ⟨n, rfl⟩ := Int.eq_ofNat_of_zero_le hb
  have := or_disj' m n 16 (by omega)
  rw [show (((m : Int) * 65536).toNat) = 2 ^ 16 * m by omega, Int.toNat_natCast, this]; omega
theorem or_lo16 (a b : Int) (ha : 0 ≤ a) (ha2 : a ≤ 65535) (hb : 0 ≤ b) (hb2 : b ≤ 65535) : ((BitVec.ofInt IntKind.u32.bits a ||| BitVec.ofInt IntKind.u32.bits (b * 65536)).toNat : Int) = b * 65536 + a := by
  rw [BitVec.or_comm]; exact or_hi16 b a hb hb2 ha ha2
theorem lo32 (x b : Int) (hx : 0 ≤ x ∧ x ≤ 4294967295) (hb : 0 ≤ b ∧ b ≤ 65535) :
    ((BitVec.ofInt IntKind.u32.bits (IntKind.u32.wrap (x.fdiv (2 ^ min (Int.toNat 16) IntKind.u32.bits) * 2 ^ min (Int.toNat 16) IntKind.u32.bits)) ||| BitVec.ofInt IntKind.u32.bits b).toNat : Int) = x / 65536 * 65536 + b := by
  rw [show (2 : Int) ^ min (Int.toNat 16) IntKind.u32.bits = 65536 from rfl, Int.fdiv_eq_ediv_of_nonneg _ (by decide), IntKind.wrap_u32, Int.emod_eq_of_lt (by omega) (by omega)]
  exact or_hi16 _ _ (by omega) (by omega) hb.1 hb.2
theorem hi32 (x b : Int) (hx : 0 ≤ x ∧ x ≤ 4294967295) (hb : 0 ≤ b ∧ b ≤ 65535) :
    ((BitVec.ofInt IntKind.u32.bits ((BitVec.ofInt IntKind.u32.bits x &&& BitVec.ofInt IntKind.u32.bits 65535).toNat : Int) ||| BitVec.ofInt IntKind.u32.bits (IntKind.u32.wrap (b * 2 ^ min (Int.toNat 16) IntKind.u32.bits))).toNat : Int) = b * 65536 + x % 65536 := by
  have e : ((BitVec.ofInt IntKind.u32.bits x &&& BitVec.ofInt IntKind.u32.bits 65535).toNat : Int) = x % 65536 := by
    rw [band_nat _ _ _ hx.1 (show _ < (4294967296 : Int) by omega) (by omega) (show _ < (4294967296 : Int) by omega)]
    obtain ⟨a, rfl⟩ := Int.eq_ofNat_of_zero_le hx.1
    have := Nat.and_two_pow_sub_one_eq_mod a 16
    rw [Int.toNat_natCast, show ((65535 : Int).toNat) = 2 ^ 16 - 1 from rfl, this]; rfl
  have e2 : IntKind.u32.wrap (b * 65536) = b * 65536 := by rw [IntKind.wrap_u32]; omega
  rw [e, show (2 : Int) ^ min (Int.toNat 16) IntKind.u32.bits = 65536 from rfl, e2]
  exact or_lo16 _ _ (by omega) (by omega) hb.1 hb.2
theorem size_lit (a : Array UInt8) : (ByteArray.mk a).size = a.size := rfl
/-! shifts by so many -/
theorem shr_u8_1 (a : Int) : a.fdiv (2 ^ min (Int.toNat 1) IntKind.u8.bits) = a / 2 := Int.fdiv_eq_ediv_of_nonneg _ (by decide)
theorem shl_u8_1 : (2 : Int) ^ min (Int.toNat 1) IntKind.u8.bits = 2 := rfl
theorem shr_u8_2 (a : Int) : a.fdiv (2 ^ min (Int.toNat 2) IntKind.u8.bits) = a / 4 := Int.fdiv_eq_ediv_of_nonneg _ (by decide)
theorem shl_u8_2 : (2 : Int) ^ min (Int.toNat 2) IntKind.u8.bits = 4 := rfl
theorem shr_u8_3 (a : Int) : a.fdiv (2 ^ min (Int.toNat 3) IntKind.u8.bits) = a / 8 := Int.fdiv_eq_ediv_of_nonneg _ (by decide)
theorem shl_u8_3 : (2 : Int) ^ min (Int.toNat 3) IntKind.u8.bits = 8 := rfl
theorem shr_u8_4 (a : Int) : a.fdiv (2 ^ min (Int.toNat 4) IntKind.u8.bits) = a / 16 := Int.fdiv_eq_ediv_of_nonneg _ (by decide)
theorem shl_u8_4 : (2 : Int) ^ min (Int.toNat 4) IntKind.u8.bits = 16 := rfl
theorem shr_u8_5 (a : Int) : a.fdiv (2 ^ min (Int.toNat 5) IntKind.u8.bits) = a / 32 := Int.fdiv_eq_ediv_of_nonneg _ (by decide)
theorem shl_u8_5 : (2 : Int) ^ min (Int.toNat 5) IntKind.u8.bits = 32 := rfl
theorem shr_u8_6 (a : Int) : a.fdiv (2 ^ min (Int.toNat 6) IntKind.u8.bits) = a / 64 := Int.fdiv_eq_ediv_of_nonneg _ (by decide)
theorem shl_u8_6 : (2 : Int) ^ min (Int.toNat 6) IntKind.u8.bits = 64 := rfl
theorem shr_u8_7 (a : Int) : a.fdiv (2 ^ min (Int.toNat 7) IntKind.u8.bits) = a / 128 := Int.fdiv_eq_ediv_of_nonneg _ (by decide)
theorem shl_u8_7 : (2 : Int) ^ min (Int.toNat 7) IntKind.u8.bits = 128 := rfl
theorem shr_u16_1 (a : Int) : a.fdiv (2 ^ min (Int.toNat 1) IntKind.u16.bits) = a / 2 := Int.fdiv_eq_ediv_of_nonneg _ (by decide)
theorem shl_u16_1 : (2 : Int) ^ min (Int.toNat 1) IntKind.u16.bits = 2 := rfl
theorem shr_u16_2 (a : Int) : a.fdiv (2 ^ min (Int.toNat 2) IntKind.u16.bits) = a / 4 := Int.fdiv_eq_ediv_of_nonneg _ (by decide)
theorem shl_u16_2 : (2 : Int) ^ min (Int.toNat 2) IntKind.u16.bits = 4 := rfl
theorem shr_u16_3 (a : Int) : a.fdiv (2 ^ min (Int.toNat 3) IntKind.u16.bits) = a / 8 := Int.fdiv_eq_ediv_of_nonneg _ (by decide)
theorem shl_u16_3 : (2 : Int) ^ min (Int.toNat 3) IntKind.u16.bits = 8 := rfl
theorem shr_u16_4 (a : Int) : a.fdiv (2 ^ min (Int.toNat 4) IntKind.u16.bits) = a / 16 := Int.fdiv_eq_ediv_of_nonneg _ (by decide)
theorem shl_u16_4 : (2 : Int) ^ min (Int.toNat 4) IntKind.u16.bits = 16 := rfl
theorem shr_u16_5 (a : Int) : a.fdiv (2 ^ min (Int.toNat 5) IntKind.u16.bits) = a / 32 := Int.fdiv_eq_ediv_of_nonneg _ (by decide)
theorem shl_u16_5 : (2 : Int) ^ min (Int.toNat 5) IntKind.u16.bits = 32 := rfl
theorem shr_u16_6 (a : Int) : a.fdiv (2 ^ min (Int.toNat 6) IntKind.u16.bits) = a / 64 := Int.fdiv_eq_ediv_of_nonneg _ (by decide)
theorem shl_u16_6 : (2 : Int) ^ min (Int.toNat 6) IntKind.u16.bits = 64 := rfl
theorem shr_u16_7 (a : Int) : a.fdiv (2 ^ min (Int.toNat 7) IntKind.u16.bits) = a / 128 := Int.fdiv_eq_ediv_of_nonneg _ (by decide)
theorem shl_u16_7 : (2 : Int) ^ min (Int.toNat 7) IntKind.u16.bits = 128 := rfl
theorem shr_u16_8 (a : Int) : a.fdiv (2 ^ min (Int.toNat 8) IntKind.u16.bits) = a / 256 := Int.fdiv_eq_ediv_of_nonneg _ (by decide)
theorem shl_u16_8 : (2 : Int) ^ min (Int.toNat 8) IntKind.u16.bits = 256 := rfl
theorem shr_u16_12 (a : Int) : a.fdiv (2 ^ min (Int.toNat 12) IntKind.u16.bits) = a / 4096 := Int.fdiv_eq_ediv_of_nonneg _ (by decide)
theorem shl_u16_12 : (2 : Int) ^ min (Int.toNat 12) IntKind.u16.bits = 4096 := rfl
theorem shr_u32_1 (a : Int) : a.fdiv (2 ^ min (Int.toNat 1) IntKind.u32.bits) = a / 2 := Int.fdiv_eq_ediv_of_nonneg _ (by decide)
theorem shl_u32_1 : (2 : Int) ^ min (Int.toNat 1) IntKind.u32.bits = 2 := rfl
theorem shr_u32_2 (a : Int) : a.fdiv (2 ^ min (Int.toNat 2) IntKind.u32.bits) = a / 4 := Int.fdiv_eq_ediv_of_nonneg _ (by decide)
theorem shl_u32_2 : (2 : Int) ^ min (Int.toNat 2) IntKind.u32.bits = 4 := rfl
theorem shr_u32_3 (a : Int) : a.fdiv (2 ^ min (Int.toNat 3) IntKind.u32.bits) = a / 8 := Int.fdiv_eq_ediv_of_nonneg _ (by decide)
theorem shl_u32_3 : (2 : Int) ^ min (Int.toNat 3) IntKind.u32.bits = 8 := rfl
theorem shr_u32_4 (a : Int) : a.fdiv (2 ^ min (Int.toNat 4) IntKind.u32.bits) = a / 16 := Int.fdiv_eq_ediv_of_nonneg _ (by decide)
theorem shl_u32_4 : (2 : Int) ^ min (Int.toNat 4) IntKind.u32.bits = 16 := rfl
theorem shr_u32_5 (a : Int) : a.fdiv (2 ^ min (Int.toNat 5) IntKind.u32.bits) = a / 32 := Int.fdiv_eq_ediv_of_nonneg _ (by decide)
theorem shl_u32_5 : (2 : Int) ^ min (Int.toNat 5) IntKind.u32.bits = 32 := rfl
theorem shr_u32_6 (a : Int) : a.fdiv (2 ^ min (Int.toNat 6) IntKind.u32.bits) = a / 64 := Int.fdiv_eq_ediv_of_nonneg _ (by decide)
theorem shl_u32_6 : (2 : Int) ^ min (Int.toNat 6) IntKind.u32.bits = 64 := rfl
theorem shr_u32_7 (a : Int) : a.fdiv (2 ^ min (Int.toNat 7) IntKind.u32.bits) = a / 128 := Int.fdiv_eq_ediv_of_nonneg _ (by decide)
theorem shl_u32_7 : (2 : Int) ^ min (Int.toNat 7) IntKind.u32.bits = 128 := rfl
theorem shr_u32_8 (a : Int) : a.fdiv (2 ^ min (Int.toNat 8) IntKind.u32.bits) = a / 256 := Int.fdiv_eq_ediv_of_nonneg _ (by decide)
theorem shl_u32_8 : (2 : Int) ^ min (Int.toNat 8) IntKind.u32.bits = 256 := rfl
theorem shr_u32_12 (a : Int) : a.fdiv (2 ^ min (Int.toNat 12) IntKind.u32.bits) = a / 4096 := Int.fdiv_eq_ediv_of_nonneg _ (by decide)
theorem shl_u32_12 : (2 : Int) ^ min (Int.toNat 12) IntKind.u32.bits = 4096 := rfl
theorem shr_u32_16 (a : Int) : a.fdiv (2 ^ min (Int.toNat 16) IntKind.u32.bits) = a / 65536 := Int.fdiv_eq_ediv_of_nonneg _ (by decide)
theorem shl_u32_16 : (2 : Int) ^ min (Int.toNat 16) IntKind.u32.bits = 65536 := rfl
theorem shr_u32_24 (a : Int) : a.fdiv (2 ^ min (Int.toNat 24) IntKind.u32.bits) = a / 16777216 := Int.fdiv_eq_ediv_of_nonneg _ (by decide)
theorem shl_u32_24 : (2 : Int) ^ min (Int.toNat 24) IntKind.u32.bits = 16777216 := rfl
theorem shr_u32_31 (a : Int) : a.fdiv (2 ^ min (Int.toNat 31) IntKind.u32.bits) = a / 2147483648 := Int.fdiv_eq_ediv_of_nonneg _ (by decide)
theorem shl_u32_31 : (2 : Int) ^ min (Int.toNat 31) IntKind.u32.bits = 2147483648 := rfl
theorem shr_u64_1 (a : Int) : a.fdiv (2 ^ min (Int.toNat 1) IntKind.u64.bits) = a / 2 := Int.fdiv_eq_ediv_of_nonneg _ (by decide)
theorem shl_u64_1 : (2 : Int) ^ min (Int.toNat 1) IntKind.u64.bits = 2 := rfl
theorem shr_u64_2 (a : Int) : a.fdiv (2 ^ min (Int.toNat 2) IntKind.u64.bits) = a / 4 := Int.fdiv_eq_ediv_of_nonneg _ (by decide)
theorem shl_u64_2 : (2 : Int) ^ min (Int.toNat 2) IntKind.u64.bits = 4 := rfl
theorem shr_u64_3 (a : Int) : a.fdiv (2 ^ min (Int.toNat 3) IntKind.u64.bits) = a / 8 := Int.fdiv_eq_ediv_of_nonneg _ (by decide)
theorem shl_u64_3 : (2 : Int) ^ min (Int.toNat 3) IntKind.u64.bits = 8 := rfl
theorem shr_u64_4 (a : Int) : a.fdiv (2 ^ min (Int.toNat 4) IntKind.u64.bits) = a / 16 := Int.fdiv_eq_ediv_of_nonneg _ (by decide)
theorem shl_u64_4 : (2 : Int) ^ min (Int.toNat 4) IntKind.u64.bits = 16 := rfl
theorem shr_u64_5 (a : Int) : a.fdiv (2 ^ min (Int.toNat 5) IntKind.u64.bits) = a / 32 := Int.fdiv_eq_ediv_of_nonneg _ (by decide)
theorem shl_u64_5 : (2 : Int) ^ min (Int.toNat 5) IntKind.u64.bits = 32 := rfl
theorem shr_u64_6 (a : Int) : a.fdiv (2 ^ min (Int.toNat 6) IntKind.u64.bits) = a / 64 := Int.fdiv_eq_ediv_of_nonneg _ (by decide)
theorem shl_u64_6 : (2 : Int) ^ min (Int.toNat 6) IntKind.u64.bits = 64 := rfl
theorem shr_u64_7 (a : Int) : a.fdiv (2 ^ min (Int.toNat 7) IntKind.u64.bits) = a / 128 := Int.fdiv_eq_ediv_of_nonneg _ (by decide)
theorem shl_u64_7 : (2 : Int) ^ min (Int.toNat 7) IntKind.u64.bits = 128 := rfl
theorem shr_u64_8 (a : Int) : a.fdiv (2 ^ min (Int.toNat 8) IntKind.u64.bits) = a / 256 := Int.fdiv_eq_ediv_of_nonneg _ (by decide)
theorem shl_u64_8 : (2 : Int) ^ min (Int.toNat 8) IntKind.u64.bits = 256 := rfl
theorem shr_u64_12 (a : Int) : a.fdiv (2 ^ min (Int.toNat 12) IntKind.u64.bits) = a / 4096 := Int.fdiv_eq_ediv_of_nonneg _ (by decide)
theorem shl_u64_12 : (2 : Int) ^ min (Int.toNat 12) IntKind.u64.bits = 4096 := rfl
theorem shr_u64_16 (a : Int) : a.fdiv (2 ^ min (Int.toNat 16) IntKind.u64.bits) = a / 65536 := Int.fdiv_eq_ediv_of_nonneg _ (by decide)
theorem shl_u64_16 : (2 : Int) ^ min (Int.toNat 16) IntKind.u64.bits = 65536 := rfl
theorem shr_u64_24 (a : Int) : a.fdiv (2 ^ min (Int.toNat 24) IntKind.u64.bits) = a / 16777216 := Int.fdiv_eq_ediv_of_nonneg _ (by decide)
theorem shl_u64_24 : (2 : Int) ^ min (Int.toNat 24) IntKind.u64.bits = 16777216 := rfl
theorem shr_u64_31 (a : Int) : a.fdiv (2 ^ min (Int.toNat 31) IntKind.u64.bits) = a / 2147483648 := Int.fdiv_eq_ediv_of_nonneg _ (by decide)
theorem shl_u64_31 : (2 : Int) ^ min (Int.toNat 31) IntKind.u64.bits = 2147483648 := rfl
theorem shr_u64_32 (a : Int) : a.fdiv (2 ^ min (Int.toNat 32) IntKind.u64.bits) = a / 4294967296 := Int.fdiv_eq_ediv_of_nonneg _ (by decide)
theorem shl_u64_32 : (2 : Int) ^ min (Int.toNat 32) IntKind.u64.bits = 4294967296 := rfl
theorem shr_u64_40 (a : Int) : a.fdiv (2 ^ min (Int.toNat 40) IntKind.u64.bits) = a / 1099511627776 := Int.fdiv_eq_ediv_of_nonneg _ (by decide)
theorem shl_u64_40 : (2 : Int) ^ min (Int.toNat 40) IntKind.u64.bits = 1099511627776 := rfl
theorem shr_u64_48 (a : Int) : a.fdiv (2 ^ min (Int.toNat 48) IntKind.u64.bits) = a / 281474976710656 := Int.fdiv_eq_ediv_of_nonneg _ (by decide)
theorem shl_u64_48 : (2 : Int) ^ min (Int.toNat 48) IntKind.u64.bits = 281474976710656 := rfl
theorem shr_i64_1 (a : Int) : a.fdiv (2 ^ min (Int.toNat 1) IntKind.i64.bits) = a / 2 := Int.fdiv_eq_ediv_of_nonneg _ (by decide)
theorem shl_i64_1 : (2 : Int) ^ min (Int.toNat 1) IntKind.i64.bits = 2 := rfl
theorem shr_i64_2 (a : Int) : a.fdiv (2 ^ min (Int.toNat 2) IntKind.i64.bits) = a / 4 := Int.fdiv_eq_ediv_of_nonneg _ (by decide)
theorem shl_i64_2 : (2 : Int) ^ min (Int.toNat 2) IntKind.i64.bits = 4 := rfl
theorem shr_i64_3 (a : Int) : a.fdiv (2 ^ min (Int.toNat 3) IntKind.i64.bits) = a / 8 := Int.fdiv_eq_ediv_of_nonneg _ (by decide)
theorem shl_i64_3 : (2 : Int) ^ min (Int.toNat 3) IntKind.i64.bits = 8 := rfl
theorem shr_i64_4 (a : Int) : a.fdiv (2 ^ min (Int.toNat 4) IntKind.i64.bits) = a / 16 := Int.fdiv_eq_ediv_of_nonneg _ (by decide)
theorem shl_i64_4 : (2 : Int) ^ min (Int.toNat 4) IntKind.i64.bits = 16 := rfl
theorem shr_i64_5 (a : Int) : a.fdiv (2 ^ min (Int.toNat 5) IntKind.i64.bits) = a / 32 := Int.fdiv_eq_ediv_of_nonneg _ (by decide)
theorem shl_i64_5 : (2 : Int) ^ min (Int.toNat 5) IntKind.i64.bits = 32 := rfl
theorem shr_i64_6 (a : Int) : a.fdiv (2 ^ min (Int.toNat 6) IntKind.i64.bits) = a / 64 := Int.fdiv_eq_ediv_of_nonneg _ (by decide)
theorem shl_i64_6 : (2 : Int) ^ min (Int.toNat 6) IntKind.i64.bits = 64 := rfl
theorem shr_i64_7 (a : Int) : a.fdiv (2 ^ min (Int.toNat 7) IntKind.i64.bits) = a / 128 := Int.fdiv_eq_ediv_of_nonneg _ (by decide)
theorem shl_i64_7 : (2 : Int) ^ min (Int.toNat 7) IntKind.i64.bits = 128 := rfl
theorem shr_i64_8 (a : Int) : a.fdiv (2 ^ min (Int.toNat 8) IntKind.i64.bits) = a / 256 := Int.fdiv_eq_ediv_of_nonneg _ (by decide)
theorem shl_i64_8 : (2 : Int) ^ min (Int.toNat 8) IntKind.i64.bits = 256 := rfl
theorem shr_i64_12 (a : Int) : a.fdiv (2 ^ min (Int.toNat 12) IntKind.i64.bits) = a / 4096 := Int.fdiv_eq_ediv_of_nonneg _ (by decide)
theorem shl_i64_12 : (2 : Int) ^ min (Int.toNat 12) IntKind.i64.bits = 4096 := rfl
theorem shr_i64_16 (a : Int) : a.fdiv (2 ^ min (Int.toNat 16) IntKind.i64.bits) = a / 65536 := Int.fdiv_eq_ediv_of_nonneg _ (by decide)
theorem shl_i64_16 : (2 : Int) ^ min (Int.toNat 16) IntKind.i64.bits = 65536 := rfl
theorem shr_i64_24 (a : Int) : a.fdiv (2 ^ min (Int.toNat 24) IntKind.i64.bits) = a / 16777216 := Int.fdiv_eq_ediv_of_nonneg _ (by decide)
theorem shl_i64_24 : (2 : Int) ^ min (Int.toNat 24) IntKind.i64.bits = 16777216 := rfl
theorem shr_i64_31 (a : Int) : a.fdiv (2 ^ min (Int.toNat 31) IntKind.i64.bits) = a / 2147483648 := Int.fdiv_eq_ediv_of_nonneg _ (by decide)
theorem shl_i64_31 : (2 : Int) ^ min (Int.toNat 31) IntKind.i64.bits = 2147483648 := rfl
theorem shr_i64_32 (a : Int) : a.fdiv (2 ^ min (Int.toNat 32) IntKind.i64.bits) = a / 4294967296 := Int.fdiv_eq_ediv_of_nonneg _ (by decide)
theorem shl_i64_32 : (2 : Int) ^ min (Int.toNat 32) IntKind.i64.bits = 4294967296 := rfl
theorem shr_i64_40 (a : Int) : a.fdiv (2 ^ min (Int.toNat 40) IntKind.i64.bits) = a / 1099511627776 := Int.fdiv_eq_ediv_of_nonneg _ (by decide)
theorem shl_i64_40 : (2 : Int) ^ min (Int.toNat 40) IntKind.i64.bits = 1099511627776 := rfl
theorem shr_i64_48 (a : Int) : a.fdiv (2 ^ min (Int.toNat 48) IntKind.i64.bits) = a / 281474976710656 := Int.fdiv_eq_ediv_of_nonneg _ (by decide)
theorem shl_i64_48 : (2 : Int) ^ min (Int.toNat 48) IntKind.i64.bits = 281474976710656 := rfl
theorem needB {b : Bool} (h : b = true) : b = true := h
theorem Test.empty {s : ByteArray} {A B : Prop} (a : s.size = 0 → A) (b : 0 < s.size → B) : Test (s.toList == (ByteArray.mk #[]).toList) A B := by
  constructor
  · intro h
    rw [beq_iff_eq, ByteArray.toList_eq, ByteArray.toList_eq] at h
    exact a (by have := congrArg List.length h; simpa using this)
  · intro h
    refine b (Nat.pos_of_ne_zero fun e => ?_)
    have : s.data.toList = [] := List.length_eq_zero_iff.1 (by simpa using e)
    rw [ByteArray.toList_eq, ByteArray.toList_eq, this] at h
    cases h
theorem Test.ie {a b : Int} {A B : Prop} (f : a = b → A) (g : ¬ a = b → B) : Test (a == b) A B := ⟨fun h => f (beq_iff_eq.1 h), fun h => g (fun e => by rw [beq_iff_eq.2 e] at h; cases h)⟩
theorem Test.ieT {a b : Int} {A B : Prop} (h : a = b) (f : A) : Test (a == b) A B := .ie (fun _ => f) (fun e => absurd h e)
theorem Test.ieF {a b : Int} {A B : Prop} (h : ¬ a = b) (g : B) : Test (a == b) A B := .ie (fun e => absurd e h) (fun _ => g)
theorem Test.ne {a b : Int} {A B : Prop} (f : ¬ a = b → A) (g : a = b → B) : Test (a != b) A B := ⟨fun h => f (bne_iff_ne.1 h), fun h => g (by simpa using h)⟩
theorem Test.neT {a b : Int} {A B : Prop} (h : ¬ a = b) (f : A) : Test (a != b) A B := .ne (fun _ => f) (fun e => absurd e h)
theorem Test.neF {a b : Int} {A B : Prop} (h : a = b) (g : B) : Test (a != b) A B := .ne (fun e => absurd h e) (fun _ => g)
theorem Arith.shr8 {a : Int} {K : Int → Prop} (h : 0 ≤ a ∧ a ≤ 255) (g : K (a / 16)) : Arith .i64 (a.fdiv (2 ^ min (Int.toNat 4) IntKind.u8.bits)) K := .inr (by rw [shr_u8_4, IntKind.wrap_i64]; omega) (by rw [shr_u8_4]; exact g)
end Go.Proofs.Ytmdfkggflainbaa.VM
