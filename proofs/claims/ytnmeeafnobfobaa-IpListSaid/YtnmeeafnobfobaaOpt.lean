/- The contract of ip4.Opts. -/
import Derived.Test.YtnmeeafnobfobaaBld
import Derived.Test.YtnmeeafnobfobaaRep
import Derived.Test.YtnmeeafnobfobaaRef
namespace Go.Proofs.Ytnmeeafnobfobaa
open Go.RowKit
set_option linter.unusedVariables false
def optL (x : Int × ByteArray) : List UInt8 := UInt8.ofNat x.1.toNat :: (if 1 < x.1 then UInt8.ofNat (IntKind.u8.wrap ((x.2.size : Int) + 2)).toNat :: x.2.data.toList else [])
def optsL (l : List (Int × ByteArray)) : List UInt8 := l.flatMap optL
def optOk (x : Int × ByteArray) : Prop := ¬ x.1 = 0 ∧ ¬ (x.1 = 1 ∧ ¬ x.2.size = 0)
theorem optsL_snoc (l : List (Int × ByteArray)) (i : Nat) (x : Int × ByteArray) (h : l[i]? = some x) : optsL (l.take (i + 1)) = optsL (l.take i) ++ optL x := by
  unfold optsL
  rw [List.take_add_one, h, Option.toList_some, List.flatMap_append, List.flatMap_singleton]
theorem optsL_take (l : List (Int × ByteArray)) (i : Nat) : (optsL (l.take i)).length ≤ (optsL l).length := by
  have := congrArg (fun l => (optsL l).length) (List.take_append_drop i l)
  simp only [optsL, List.flatMap_append, List.length_append] at this ⊢
  omega
set_option maxHeartbeats 3000000 in
set_option maxRecDepth 100000 in
theorem opts_any (a : Option Addr) (c : Nat) (l : List (Int × ByteArray)) (w : World) (ha : l = [] ∨ ∃ b o, a = some ⟨b, o, none⟩ ∧ b < w.heap.size ∧ ∀ (i : Nat) x, l[i]? = some x → w.cell? ⟨b, o + i * 2, none⟩ = some (.int .u8 x.1) ∧ w.cell? ⟨b, o + i * 2 + 1, none⟩ = some (.string x.2))
    (hn : l.length ≤ 1000000) (hk : ∀ x ∈ l, 0 ≤ x.1 ∧ x.1 ≤ 255) (hd : ∀ x ∈ l, x.2.size ≤ 1000000) (hs : (optsL l).length ≤ 1000000) :
    Calls Try.prog 37 #[.slice a l.length c] w fun e w' => (∃ s e0, e = .returned (.tuple #[.string s, .int .i64 e0]) ∧
      (((∃ x ∈ l, ¬ optOk x) ∧ s = ⟨#[]⟩ ∧ e0 = 102) ∨ ((∀ x ∈ l, optOk x) ∧ 40 < (optsL l).length ∧ s = ⟨#[]⟩ ∧ e0 = 4) ∨ ((∀ x ∈ l, optOk x) ∧ ¬ 40 < (optsL l).length ∧ s = ⟨(optsL l).toArray⟩ ++ ⟨(List.replicate ((4 - (optsL l).length % 4) % 4) 0).toArray⟩ ∧ e0 = 0))) ∧ Below w.heap.size w w' := by
  go_enter Try.func37, Try.ntmps37
  go_wp2_with fail
  go_loopw [9] (fun i wr => ∃ k : Nat, k ≤ l.length ∧ i = .int .i64 k ∧ (∀ x ∈ l.take k, optOk x) ∧ Bld w.heap.size w.heap.size (optsL (l.take k)) wr ∧ Below w.heap.size w wr) (fun i _ => l.length - (intOf i).toNat)
  case atStart =>
    refine ⟨0, by omega, rfl, by simp, ?_, ?_⟩
    · exact Lib.IsBuilderF.of (Lib.fresh_isBuilder _ _ w)
    · exact (Below.refl _ _).alloc (Nat.le_refl _) _
  case round =>
    obtain ⟨k, hk1, rfl, hok, hbl, hB⟩ := hrel
    by_cases hlt : k < l.length
    · obtain ⟨b, o, rfl, hb, hcells⟩ := ha.resolve_left (fun e => by rw [e] at hlt; exact absurd hlt (Nat.not_lt_zero _))
      obtain ⟨x, hx⟩ : ∃ x, l[k]? = some x := ⟨_, List.getElem?_eq_getElem hlt⟩
      obtain ⟨h1, h2⟩ := hcells k x hx
      have g1 := (hB.cell (p := ⟨b, o + k * 2, none⟩) hb).trans h1
      have g2 := (hB.cell (p := ⟨b, o + k * 2 + 1, none⟩) hb).trans h2
      have hkx := hk x (List.mem_of_getElem? hx)
      have hdx := hd x (List.mem_of_getElem? hx)
      have hxm := List.mem_of_getElem? hx
      have hsn := optsL_snoc l k x hx
      have htk := optsL_take l k
      have htk2 := optsL_take l (k + 1)
      have hl1 : (optL x).length ≤ 1000000 := by rw [hsn, List.length_append] at htk2; omega
      have htake : ∀ y ∈ l.take (k + 1), optOk x → optOk y := fun y hy h => by
        rw [List.take_add_one, hx, Option.toList_some, List.mem_append] at hy
        rcases hy with hy | hy
        · exact hok y hy
        · simp at hy; rw [hy]; exact h
      clear hcells h1 h2 ha
      obtain ⟨xk, xd⟩ := x
      simp only at g1 g2 hkx hdx
      have hBw : w.heap.size ≤ (wr.alloc (.cells #[.int .u8 xk, .string xd] 91)).heap.size := by have := hB.size; simp; omega
      have hal : Bld w.heap.size w.heap.size (optsL (l.take k)) (wr.alloc (.cells #[.int .u8 xk, .string xd] 91)) := Lib.IsBuilderF.alloc hbl _
      have hBa : Below w.heap.size w (wr.alloc (.cells #[.int .u8 xk, .string xd] 91)) := hB.alloc hB.size _
      have hnb : wr.heap.size ≠ w.heap.size := by rcases hbl with h | h <;> (have := Lib.BuilderAtF.lt h; omega)
      by_cases x0 : xk = 0
      · subst x0
        go_wp2_with fail
        go_ret2
        exact ⟨⟨_, _, rfl, .inl ⟨⟨_, hxm, fun h => h.1 rfl⟩, rfl, rfl⟩⟩, hBa⟩
      · have arm : ∀ (W : World) (hW : W = wr.alloc (.cells #[.int .u8 xk, .string xd] 91)), Calls Try.prog 73 #[.pointer (some ⟨w.heap.size, 0, none⟩), .int .u8 xk] W fun e w1 => e = .returned .nilIface ∧ Bld w.heap.size w.heap.size (optsL (l.take k) ++ [UInt8.ofNat xk.toNat]) w1 ∧ Below w.heap.size w w1 ∧ w1.cell? ⟨wr.heap.size, 0, none⟩ = some (.int .u8 xk) ∧ w1.cell? ⟨wr.heap.size, 1, none⟩ = some (.string xd) := fun W hW => by
          subst hW
          refine (bld_byte _ _ _ xk _ hal hkx (by omega) hBw).mono ?_
          rintro e w1 ⟨rfl, b1, b2, b3⟩
          have hh := kept_cells b3 (k := wr.heap.size) (cs := #[.int .u8 xk, .string xd]) (T := 91) (fz := (0, 0)) Array.getElem?_push_size hnb (by decide)
          exact ⟨rfl, b1, hBa.trans b2, by rw [Lib.cell_of_heap hh]; rfl, by rw [Lib.cell_of_heap hh]; rfl⟩
        by_cases x1 : xk = 1
        · subst x1
          by_cases xe : xd.size = 0
          · have hxd : xd = ⟨#[]⟩ := ba_ext (List.length_eq_zero_iff.1 (by rw [Sp.size_toList]; exact xe))
            subst hxd
            have hxe : (ByteArray.mk #[]).toList.isEmpty = true := by rw [ByteArray.toList_eq]; rfl
            go_wp2_with (go_at_call 73; refine (arm _ rfl).mono ?_; rintro e w1 ⟨rfl, b1, b2, c0, c1⟩)
            refine ⟨⟨k + 1, by omega, by go_num, fun y hy => htake y hy ⟨by decide, fun h => h.2 rfl⟩, ?_, b2⟩, by simp [intOf]; omega⟩
            rw [hsn]; exact b1
          · have hxe : xd.toList.isEmpty = false := by
              rw [ByteArray.toList_eq, List.isEmpty_eq_false_iff]
              intro h
              exact xe (by rw [← Sp.size_toList, h]; rfl)
            go_wp2_with fail
            go_ret2
            exact ⟨⟨_, _, rfl, .inl ⟨⟨_, hxm, fun h => h.2 ⟨rfl, xe⟩⟩, rfl, rfl⟩⟩, hBa⟩
        · have x2 : 1 < xk := by omega
          have hB0 : 0 ≤ IntKind.u8.wrap ((xd.size : Int) + 2) ∧ IntKind.u8.wrap ((xd.size : Int) + 2) < 256 := by rw [IntKind.wrap_u8]; omega
          have hi : IntKind.i64.wrap ((xd.size : Int) + 2) = (xd.size : Int) + 2 := by rw [IntKind.wrap_i64]; omega
          have hcv := conv_byte (IntKind.u8.wrap ((xd.size : Int) + 2)) hB0.1 hB0.2 1
          generalize hL : IntKind.u8.wrap ((xd.size : Int) + 2) = L at *
          have hsz : ∀ u : UInt8, ((⟨#[u]⟩ : ByteArray) ++ xd).size = 1 + xd.size := fun u => by rw [ByteArray.size_append]; rfl
          have hlX : (optsL (l.take k) ++ [UInt8.ofNat xk.toNat]).length + ((⟨#[UInt8.ofNat L.toNat]⟩ : ByteArray) ++ xd).size ≤ 140737488355328 := by rw [hsz, List.length_append, List.length_singleton]; omega
          clear hsz
          go_wp2_with (first
            | (go_at_call 73; refine (arm _ rfl).mono ?_; rintro e w1 ⟨rfl, b1, b2, c0, c1⟩; have c2 := cell_alloc_l (.cells #[.int .u8 L] 5) c1; have D := bld_str w.heap.size w.heap.size _ (⟨#[UInt8.ofNat L.toNat]⟩ ++ xd) (w1.alloc (.cells #[.int .u8 L] 5)) (Lib.IsBuilderF.alloc b1 _) hlX (b2.alloc b2.size (.cells #[.int .u8 L] 5)).size)
            | (go_at_call 74; refine D.mono ?_; rintro e w2 ⟨rfl, d1, d2, d3⟩))
          refine ⟨⟨k + 1, by omega, by go_num, fun y hy => htake y hy ⟨x0, fun h => x1 h.1⟩, ?_, (b2.alloc b2.size _).trans d2⟩, by simp [intOf]; omega⟩
          rw [hsn]
          have e1 : optL (xk, xd) = [UInt8.ofNat xk.toNat] ++ ((⟨#[UInt8.ofNat L.toNat]⟩ : ByteArray) ++ xd).data.toList := by
            unfold optL
            rw [Sp.append_toList]
            simp only
            rw [if_pos x2, hL]; rfl
          rw [e1, ← List.append_assoc]; exact d1
    · have hke : k = l.length := by omega
      subst hke
      rw [List.take_length] at hok hbl
      have hBw := hB.size
      have hz : ∀ W (i : Int), i = (((4 - (optsL l).length % 4) % 4 : Nat) : Int) → Calls Try.prog 77 #[.string ⟨#[0]⟩, .int .i64 i] W fun e w' => e = .returned (.string ⟨(List.replicate ((4 - (optsL l).length % 4) % 4) 0).toArray⟩) ∧ Below W.heap.size W w' := fun W i hi => by
        have R := Try.strings_Repeat ⟨#[0]⟩ ((4 - (optsL l).length % 4) % 4) W (by omega) (by show 1 * _ ≤ _; omega)
        rw [← hi] at R
        have e : Lib.repeatL (ByteArray.mk #[0]).data.toList ((4 - (optsL l).length % 4) % 4) = List.replicate ((4 - (optsL l).length % 4) % 4) 0 := by
          generalize (4 - (optsL l).length % 4) % 4 = n
          induction n with
          | zero => rfl
          | succ n ih => rw [List.replicate_succ, ← ih]; rfl
        rwa [e] at R
      have hzs : (ByteArray.mk (List.replicate ((4 - (optsL l).length % 4) % 4) 0).toArray).size = (4 - (optsL l).length % 4) % 4 := by show (List.toArray _).size = _; simp
      have hos : (ByteArray.mk (optsL l).toArray).size = (optsL l).length := by show (List.toArray _).size = _; simp
      have hT := fun W h1 h2 => bld_text w.heap.size w.heap.size (optsL l) W h1 h2
      obtain ⟨Z, hZ⟩ : ∃ Z, Z = ByteArray.mk (List.replicate ((4 - (optsL l).length % 4) % 4) 0).toArray := ⟨_, rfl⟩
      obtain ⟨O, hO⟩ : ∃ O, O = ByteArray.mk (optsL l).toArray := ⟨_, rfl⟩
      rw [← hZ] at hzs
      rw [← hO] at hos
      simp only [← hZ] at hz
      simp only [← hO] at hT
      have hZ' := hid hZ
      have hO' := hid hO
      clear hZ hO
      have hcat : O.size + Z.size ≤ 9223372036854775807 := by omega
      have hcat2 : ¬ 9223372036854775807 < O.size + Z.size := by omega
      clear hzs
      go_wp2_with (first
        | (go_at_call 75; refine (bld_len w.heap.size w.heap.size (optsL l) _ (by assumption)).mono ?_; rintro e w1 ⟨rfl, rfl⟩)
        | (go_at_call 76; refine (hT _ hbl hBw).mono ?_; rintro e w1 ⟨rfl, d1, d2⟩)
        | (go_at_call 77; refine (hz _ _ (by omega)).mono ?_; rintro e w2 ⟨rfl, d3⟩))
      · go_ret2
        exact ⟨⟨_, _, rfl, .inr (.inl ⟨hok, by omega, rfl, rfl⟩)⟩, hB⟩
      · go_ret2
        exact ⟨⟨_, _, rfl, .inr (.inr ⟨hok, by omega, by rw [hZ'.out, hO'.out], rfl⟩)⟩, (hB.trans d2).trans (d3.mono (hB.trans d2).size)⟩
end Go.Proofs.Ytnmeeafnobfobaa
