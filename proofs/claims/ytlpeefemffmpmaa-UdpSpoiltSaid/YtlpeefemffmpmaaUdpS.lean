/- Plain functions of layer 15 (udp). -/
import Derived.Test.YtlpeefemffmpmaaSumP
import Derived.Test.YtlpeefemffmpmaaTurn
import Derived.Laws.ResultCell
namespace Go.Proofs.Ytlpeefemffmpmaa
open Go.RowKit
set_option linter.unusedVariables false
namespace Sp
def udpFront (p q n : Int) : ByteArray := ofB p 2 ++ ofB q 2 ++ ofB n 2
theorem udpFront_size (p q n : Int) : (udpFront p q n).size = 6 := by simp [udpFront, ofB_size]
/-- The checksum, ahead of 0's turn. -/
def udpSum0 (x y p q : Int) (d : ByteArray) : Int := 65535 - sumB (headB x y 17 (8 + d.size) ++ (udpFront p q (8 + d.size) ++ (⟨#[0, 0]⟩ ++ d)))
theorem udpSum0_bd (x y p q : Int) (d : ByteArray) : 0 ≤ udpSum0 x y p q d ∧ udpSum0 x y p q d ≤ 65535 := by
  have := sumB_bd (headB x y 17 (8 + d.size) ++ (udpFront p q (8 + d.size) ++ (⟨#[0, 0]⟩ ++ d)))
  unfold udpSum0; omega
def udpSum (x y p q : Int) (d : ByteArray) : Int := if udpSum0 x y p q d = 0 then 65535 else udpSum0 x y p q d
def udpB (x y p q : Int) (d : ByteArray) : ByteArray := udpFront p q (8 + d.size) ++ ofB (udpSum x y p q d) 2 ++ d
end Sp
/-- A datagram, as a value. -/
def dg (x p y q : Int) (d : ByteArray) : Value := .agg #[.int .u32 x, .int .u16 p, .int .u32 y, .int .u16 q, .string d]
theorem cell_new_at (W : World) (C : Array Value) (t : TypeId) (n i : Nat) (v : Value) (hn : n = W.heap.size) (hv : C[i]? = some v) : (W.alloc (.cells C t)).cell? ⟨n, i, none⟩ = some v := by
  subst hn; rw [World.cell?_alloc_new]; exact hv
theorem frozen_new_at (W : World) (C : Array Value) (t : TypeId) (n i : Nat) (hn : n = W.heap.size) : (W.alloc (.cells C t)).frozen? ⟨n, i, none⟩ = false := by
  subst hn; rw [World.frozen?_alloc_new]
theorem frozen_up {W : World} {b i : Nat} (o : Obj) (hb : b < W.heap.size) (h : W.frozen? ⟨b, i, none⟩ = false) : (W.alloc o).frozen? ⟨b, i, none⟩ = false := by
  rw [World.frozen?_alloc_old _ _ _ (by show b ≠ _; omega)]; exact h
theorem frozen_stays {W0 w' : World} (h : Below W0.heap.size W0 w') {b o : Nat} (hb : b < W0.heap.size) (hc : W0.frozen? ⟨b, o, none⟩ = false) : w'.frozen? ⟨b, o, none⟩ = false := (h.frozen (p := ⟨b, o, none⟩) hb).trans hc
theorem below_set {w0 W : World} {b o : Nat} {v : Value} (h : Below w0.heap.size w0 W) (hp : w0.heap.size ≤ b) : Below w0.heap.size w0 (W.setCell ⟨b, o, none⟩ v) := h.setCell (p := ⟨b, o, none⟩) hp v
theorem set_other {W : World} {b i j : Nat} {u v : Value} (h : i ≠ j) (hc : W.cell? ⟨b, j, none⟩ = some u) : (W.setCell ⟨b, i, none⟩ v).cell? ⟨b, j, none⟩ = some u :=
  (World.cell?_setCell_other _ _ _ _ (by intro e; exact h (congrArg Addr.off e))).trans hc
theorem set_same {W : World} {b i : Nat} {u v : Value} (hc : W.cell? ⟨b, i, none⟩ = some u) : (W.setCell ⟨b, i, none⟩ v).cell? ⟨b, i, none⟩ = some v :=
  World.cell?_setCell_same' _ _ _ (by rw [hc]; rfl)
theorem set2 {W : World} {b : Nat} {u0 u1 v0 v1 : Value} (h0 : W.cell? ⟨b, 0, none⟩ = some u0) (h1 : W.cell? ⟨b, 1, none⟩ = some u1) : ((W.setCell ⟨b, 0, none⟩ v0).setCell ⟨b, 1, none⟩ v1).cell? ⟨b, 0, none⟩ = some v0 ∧ ((W.setCell ⟨b, 0, none⟩ v0).setCell ⟨b, 1, none⟩ v1).cell? ⟨b, 1, none⟩ = some v1 :=
  ⟨set_other (by decide) (set_same (h0)), set_same (set_other (by decide) (h1))⟩
theorem set5 {W : World} {b : Nat} {u0 u1 u2 u3 u4 v0 v1 v2 v3 v4 : Value} (h0 : W.cell? ⟨b, 0, none⟩ = some u0) (h1 : W.cell? ⟨b, 1, none⟩ = some u1) (h2 : W.cell? ⟨b, 2, none⟩ = some u2) (h3 : W.cell? ⟨b, 3, none⟩ = some u3) (h4 : W.cell? ⟨b, 4, none⟩ = some u4) : (((((W.setCell ⟨b, 0, none⟩ v0).setCell ⟨b, 1, none⟩ v1).setCell ⟨b, 2, none⟩ v2).setCell ⟨b, 3, none⟩ v3).setCell ⟨b, 4, none⟩ v4).cell? ⟨b, 0, none⟩ = some v0 ∧ (((((W.setCell ⟨b, 0, none⟩ v0).setCell ⟨b, 1, none⟩ v1).setCell ⟨b, 2, none⟩ v2).setCell ⟨b, 3, none⟩ v3).setCell ⟨b, 4, none⟩ v4).cell? ⟨b, 1, none⟩ = some v1 ∧ (((((W.setCell ⟨b, 0, none⟩ v0).setCell ⟨b, 1, none⟩ v1).setCell ⟨b, 2, none⟩ v2).setCell ⟨b, 3, none⟩ v3).setCell ⟨b, 4, none⟩ v4).cell? ⟨b, 2, none⟩ = some v2 ∧ (((((W.setCell ⟨b, 0, none⟩ v0).setCell ⟨b, 1, none⟩ v1).setCell ⟨b, 2, none⟩ v2).setCell ⟨b, 3, none⟩ v3).setCell ⟨b, 4, none⟩ v4).cell? ⟨b, 3, none⟩ = some v3 ∧ (((((W.setCell ⟨b, 0, none⟩ v0).setCell ⟨b, 1, none⟩ v1).setCell ⟨b, 2, none⟩ v2).setCell ⟨b, 3, none⟩ v3).setCell ⟨b, 4, none⟩ v4).cell? ⟨b, 4, none⟩ = some v4 :=
  ⟨set_other (by decide) (set_other (by decide) (set_other (by decide) (set_other (by decide) (set_same (h0))))), set_other (by decide) (set_other (by decide) (set_other (by decide) (set_same (set_other (by decide) (h1))))), set_other (by decide) (set_other (by decide) (set_same (set_other (by decide) (set_other (by decide) (h2))))), set_other (by decide) (set_same (set_other (by decide) (set_other (by decide) (set_other (by decide) (h3))))), set_same (set_other (by decide) (set_other (by decide) (set_other (by decide) (set_other (by decide) (h4)))))⟩
theorem cell_drew_l {w : World} {p : Addr} {v : Value} (h : w.cell? p = some v) : w.drew.cell? p = some v := (World.cell?_drew _ _).trans h
theorem res_dg {fn : Func} {p u : Tmp} (h : fn.results = #[.cell p 46, .tmp u]) (tmps : Array Value) (W : World) (b : Nat) (v0 v1 v2 v3 v4 v : Value)
    (hp : tmps.getD p undef = .pointer (some ⟨b, 0, none⟩)) (hu : tmps.getD u undef = v)
    (r0 : W.cell? ⟨b, 0, none⟩ = some v0) (r1 : W.cell? ⟨b, 1, none⟩ = some v1) (r2 : W.cell? ⟨b, 2, none⟩ = some v2) (r3 : W.cell? ⟨b, 3, none⟩ = some v3) (r4 : W.cell? ⟨b, 4, none⟩ = some v4) :
    (results fn tmps).run Try.prog W = .ok (.tuple #[.agg #[v0, v1, v2, v3, v4], v]) W := by
  rw [results_cell_tmp h, hp, hu]
  clear hp hu h
  have e : (asAddr (.pointer (some ⟨b, 0, none⟩))).run Try.prog W = .ok ⟨b, 0, none⟩ W := rfl
  rw [e]
  simp [Result.andThen, go_sem, r0, r1, r2, r3, r4]
theorem cell_stays {W0 w' : World} (h : Below W0.heap.size W0 w') {b o : Nat} {v : Value} (hb : b < W0.heap.size) (hc : W0.cell? ⟨b, o, none⟩ = some v) : w'.cell? ⟨b, o, none⟩ = some v := (h.cell (p := ⟨b, o, none⟩) hb).trans hc
theorem keep1 {W0 w' : World} {a0 : Addr} {v0 : Value} (b0 : a0.block < W0.heap.size) (k0 : W0.cell? a0 = some v0) (h : Below W0.heap.size W0 w') : Below W0.heap.size W0 w' ∧ w'.cell? a0 = some v0 := ⟨h, (h.cell b0).trans k0⟩
theorem keep2 {W0 w' : World} {a0 a1 : Addr} {v0 v1 : Value} (b0 : a0.block < W0.heap.size) (b1 : a1.block < W0.heap.size) (k0 : W0.cell? a0 = some v0) (k1 : W0.cell? a1 = some v1) (h : Below W0.heap.size W0 w') : Below W0.heap.size W0 w' ∧ w'.cell? a0 = some v0 ∧ w'.cell? a1 = some v1 := ⟨h, (h.cell b0).trans k0, (h.cell b1).trans k1⟩
theorem keep3 {W0 w' : World} {a0 a1 a2 : Addr} {v0 v1 v2 : Value} (b0 : a0.block < W0.heap.size) (b1 : a1.block < W0.heap.size) (b2 : a2.block < W0.heap.size) (k0 : W0.cell? a0 = some v0) (k1 : W0.cell? a1 = some v1) (k2 : W0.cell? a2 = some v2) (h : Below W0.heap.size W0 w') : Below W0.heap.size W0 w' ∧ w'.cell? a0 = some v0 ∧ w'.cell? a1 = some v1 ∧ w'.cell? a2 = some v2 := ⟨h, (h.cell b0).trans k0, (h.cell b1).trans k1, (h.cell b2).trans k2⟩
theorem keep4 {W0 w' : World} {a0 a1 a2 a3 : Addr} {v0 v1 v2 v3 : Value} (b0 : a0.block < W0.heap.size) (b1 : a1.block < W0.heap.size) (b2 : a2.block < W0.heap.size) (b3 : a3.block < W0.heap.size) (k0 : W0.cell? a0 = some v0) (k1 : W0.cell? a1 = some v1) (k2 : W0.cell? a2 = some v2) (k3 : W0.cell? a3 = some v3) (h : Below W0.heap.size W0 w') : Below W0.heap.size W0 w' ∧ w'.cell? a0 = some v0 ∧ w'.cell? a1 = some v1 ∧ w'.cell? a2 = some v2 ∧ w'.cell? a3 = some v3 := ⟨h, (h.cell b0).trans k0, (h.cell b1).trans k1, (h.cell b2).trans k2, (h.cell b3).trans k3⟩
theorem keep5 {W0 w' : World} {a0 a1 a2 a3 a4 : Addr} {v0 v1 v2 v3 v4 : Value} (b0 : a0.block < W0.heap.size) (b1 : a1.block < W0.heap.size) (b2 : a2.block < W0.heap.size) (b3 : a3.block < W0.heap.size) (b4 : a4.block < W0.heap.size) (k0 : W0.cell? a0 = some v0) (k1 : W0.cell? a1 = some v1) (k2 : W0.cell? a2 = some v2) (k3 : W0.cell? a3 = some v3) (k4 : W0.cell? a4 = some v4) (h : Below W0.heap.size W0 w') : Below W0.heap.size W0 w' ∧ w'.cell? a0 = some v0 ∧ w'.cell? a1 = some v1 ∧ w'.cell? a2 = some v2 ∧ w'.cell? a3 = some v3 ∧ w'.cell? a4 = some v4 := ⟨h, (h.cell b0).trans k0, (h.cell b1).trans k1, (h.cell b2).trans k2, (h.cell b3).trans k3, (h.cell b4).trans k4⟩
theorem keep6 {W0 w' : World} {a0 a1 a2 a3 a4 a5 : Addr} {v0 v1 v2 v3 v4 v5 : Value} (b0 : a0.block < W0.heap.size) (b1 : a1.block < W0.heap.size) (b2 : a2.block < W0.heap.size) (b3 : a3.block < W0.heap.size) (b4 : a4.block < W0.heap.size) (b5 : a5.block < W0.heap.size) (k0 : W0.cell? a0 = some v0) (k1 : W0.cell? a1 = some v1) (k2 : W0.cell? a2 = some v2) (k3 : W0.cell? a3 = some v3) (k4 : W0.cell? a4 = some v4) (k5 : W0.cell? a5 = some v5) (h : Below W0.heap.size W0 w') : Below W0.heap.size W0 w' ∧ w'.cell? a0 = some v0 ∧ w'.cell? a1 = some v1 ∧ w'.cell? a2 = some v2 ∧ w'.cell? a3 = some v3 ∧ w'.cell? a4 = some v4 ∧ w'.cell? a5 = some v5 := ⟨h, (h.cell b0).trans k0, (h.cell b1).trans k1, (h.cell b2).trans k2, (h.cell b3).trans k3, (h.cell b4).trans k4, (h.cell b5).trans k5⟩
theorem keep7 {W0 w' : World} {a0 a1 a2 a3 a4 a5 a6 : Addr} {v0 v1 v2 v3 v4 v5 v6 : Value} (b0 : a0.block < W0.heap.size) (b1 : a1.block < W0.heap.size) (b2 : a2.block < W0.heap.size) (b3 : a3.block < W0.heap.size) (b4 : a4.block < W0.heap.size) (b5 : a5.block < W0.heap.size) (b6 : a6.block < W0.heap.size) (k0 : W0.cell? a0 = some v0) (k1 : W0.cell? a1 = some v1) (k2 : W0.cell? a2 = some v2) (k3 : W0.cell? a3 = some v3) (k4 : W0.cell? a4 = some v4) (k5 : W0.cell? a5 = some v5) (k6 : W0.cell? a6 = some v6) (h : Below W0.heap.size W0 w') : Below W0.heap.size W0 w' ∧ w'.cell? a0 = some v0 ∧ w'.cell? a1 = some v1 ∧ w'.cell? a2 = some v2 ∧ w'.cell? a3 = some v3 ∧ w'.cell? a4 = some v4 ∧ w'.cell? a5 = some v5 ∧ w'.cell? a6 = some v6 := ⟨h, (h.cell b0).trans k0, (h.cell b1).trans k1, (h.cell b2).trans k2, (h.cell b3).trans k3, (h.cell b4).trans k4, (h.cell b5).trans k5, (h.cell b6).trans k6⟩
theorem keep8 {W0 w' : World} {a0 a1 a2 a3 a4 a5 a6 a7 : Addr} {v0 v1 v2 v3 v4 v5 v6 v7 : Value} (b0 : a0.block < W0.heap.size) (b1 : a1.block < W0.heap.size) (b2 : a2.block < W0.heap.size) (b3 : a3.block < W0.heap.size) (b4 : a4.block < W0.heap.size) (b5 : a5.block < W0.heap.size) (b6 : a6.block < W0.heap.size) (b7 : a7.block < W0.heap.size) (k0 : W0.cell? a0 = some v0) (k1 : W0.cell? a1 = some v1) (k2 : W0.cell? a2 = some v2) (k3 : W0.cell? a3 = some v3) (k4 : W0.cell? a4 = some v4) (k5 : W0.cell? a5 = some v5) (k6 : W0.cell? a6 = some v6) (k7 : W0.cell? a7 = some v7) (h : Below W0.heap.size W0 w') : Below W0.heap.size W0 w' ∧ w'.cell? a0 = some v0 ∧ w'.cell? a1 = some v1 ∧ w'.cell? a2 = some v2 ∧ w'.cell? a3 = some v3 ∧ w'.cell? a4 = some v4 ∧ w'.cell? a5 = some v5 ∧ w'.cell? a6 = some v6 ∧ w'.cell? a7 = some v7 := ⟨h, (h.cell b0).trans k0, (h.cell b1).trans k1, (h.cell b2).trans k2, (h.cell b3).trans k3, (h.cell b4).trans k4, (h.cell b5).trans k5, (h.cell b6).trans k6, (h.cell b7).trans k7⟩
end Go.Proofs.Ytlpeefemffmpmaa
