/- Contracts of package sum. -/
import Derived.RangeFuncNested
import Derived.RangeFuncBound
import Derived.RangeFuncCalls
import Derived.RangeFuncLeaves
import Derived.RangeFuncFrom
import Derived.Shelf.Abstract
import Derived.Shelf.RegionOpen
import Derived.OwnWalkIn
import Derived.TacticsInMore
import Derived.LoopNIn
import Derived.LoopIn
import Derived.Test.YtnmeeafnobfobaaWordOf
import Derived.Test.YtnmeeafnobfobaaShelf
namespace Go.Proofs.Ytnmeeafnobfobaa
open Go.RowKit Go.Shelf
set_option linter.unusedVariables false

attribute [local go_sem] Oper.semAt_some

theorem below_grown {w w' : World} (h : Below w.heap.size w w') : w.grownBy w' none := ⟨h.os, h.tape, h.output, h.size, fun k hk _ => h.block k hk⟩

/-- What the iterator's words are read from: the joined text. -/
def joined (xs : List ByteArray) : ByteArray := ⟨(Lib.join (xs.map (·.data.toList)) (ByteArray.mk #[]).data.toList).toArray⟩

theorem join_nil (l : List (List UInt8)) : Lib.join l [] = l.flatten := by
  cases l with
  | nil => rfl
  | cons x l =>
    rw [Lib.join_cons, List.flatten_cons]; congr 1
    induction l with
    | nil => rfl
    | cons y l ih => rw [List.flatten_cons, ← ih]; rfl
theorem joined_nil : joined [] = ⟨#[]⟩ := rfl
theorem joined_toList (xs : List ByteArray) : (joined xs).data.toList = (xs.map (·.data.toList)).flatten := by
  show (List.toArray _).toList = _
  rw [show (ByteArray.mk #[]).data.toList = [] from rfl, join_nil]
theorem ba_ext {a b : ByteArray} (h : a.data.toList = b.data.toList) : a = b := by
  apply ByteArray.ext; exact Array.ext' h
theorem joined_cons (x : ByteArray) (xs : List ByteArray) : joined (x :: xs) = x ++ joined xs := by
  apply ba_ext; rw [Sp.append_toList, joined_toList, joined_toList]; simp
theorem joined_append (xs ys : List ByteArray) : joined (xs ++ ys) = joined xs ++ joined ys := by
  apply ba_ext; rw [Sp.append_toList, joined_toList, joined_toList, joined_toList]; simp
theorem joined_one (x : ByteArray) : joined [x] = x := by
  apply ba_ext; rw [joined_toList]; simp
theorem joined_two (x y : ByteArray) : joined [x, y] = x ++ y := by rw [joined_cons, joined_one]
theorem joined_three (x y z : ByteArray) : joined [x, y, z] = x ++ (y ++ z) := by rw [joined_cons, joined_two]
theorem joined_four (x y z u : ByteArray) : joined [x, y, z, u] = x ++ (y ++ (z ++ u)) := by rw [joined_cons, joined_three]

theorem joined_size (xs : List ByteArray) : (joined xs).size = (Lib.join (xs.map (·.data.toList)) (ByteArray.mk #[]).data.toList).length := by
  show (List.toArray _).size = _; simp

/-- A slice value that reads as a list of texts. -/
def Strs (w : World) (a : Option Addr) (c : Nat) (xs : List ByteArray) : Prop :=
  xs = [] ∨ ∃ bk o, a = some ⟨bk, o, none⟩ ∧ bk < w.heap.size ∧ xs.length ≤ c ∧ ∀ (j : Nat) x, xs[j]? = some x → w.cell? ⟨bk, o + j, none⟩ = some (.string x)

theorem Strs.below {w w' : World} {a : Option Addr} {c : Nat} {xs : List ByteArray} (h : Strs w a c xs) (hb : Below w.heap.size w w') : Strs w' a c xs := by
  rcases h with h | ⟨bk, o, ha, hbk, hc, hx⟩
  · exact .inl h
  · exact .inr ⟨bk, o, ha, Nat.lt_of_lt_of_le hbk hb.size, hc, fun j x hj => (hb.cell (p := ⟨bk, o + j, none⟩) hbk).trans (hx j x hj)⟩

theorem join_any (a : Option Addr) (c : Nat) (xs : List ByteArray) (w : World) (hS : Strs w a c xs) (hN : xs.length ≤ 140737488355328)
    (hlen : (joined xs).size ≤ 140737488355328) :
    Calls Try.prog 103 #[.slice a xs.length c, .string ⟨#[]⟩] w fun e w' => e = .returned (.string (joined xs)) ∧ Below w.heap.size w w' := by
  rcases hS with rfl | ⟨bk, o, rfl, hbk, hcap, hcells⟩
  · exact (Try.strings_Join_none a c ⟨#[]⟩ w).mono fun e w' ⟨he, hw⟩ => ⟨he, hw ▸ Below.refl _ _⟩
  · exact Try.strings_Join bk o c xs ⟨#[]⟩ w hcells hbk hN hcap (by rw [← joined_size]; exact hlen)

set_option maxRecDepth 100000 in
set_option maxHeartbeats 1000000 in
theorem words1_in (l Bn c : Nat) (sa : Option Addr) (xs : List ByteArray) (J Jx : List Sp.W16 → World → Prop) (n₀ : Nat)
    (W : World) (hn0 : n₀ ≤ W.heap.size)
    (hY : ∀ pre x W1, J pre W1 → pre.length < ((joined xs).size + 1) / 2 → YieldAt Fence.wide 4 Try.prog l #[.int .u32 x.1] W1 fun e W' =>
      (e = .returned (.bool true) ∧ J (pre ++ [x]) W' ∧ Below n₀ W1 W') ∨ (e = .returned (.bool false) ∧ Jx (pre ++ [x]) W'))
    (hJ : AbidesFrom W.heap.size J)
    (hBn : W.cell? ⟨Bn, 0, none⟩ = some (.slice sa xs.length c)) (hS : Strs W sa c xs)
    (hN : xs.length ≤ 140737488355328) (hlen : (joined xs).size ≤ 140737488355328) (h0 : J [] W) :
    CallsIn Fence.wide 5 Try.prog 102 #[.func (.yield l) #[] #[], .pointer (some ⟨Bn, 0, none⟩)] W fun e W' => (∃ v, e = .returned v) ∧
      ((∃ ys, ys = Sp.wds (joined xs) (((joined xs).size + 1) / 2) ∧ J ys W') ∨ (∃ pre, True ∧ Jx pre W')) := by
  have HY := hid hY
  have HJ := hid hJ
  clear hY hJ
  refine callsIn_of_wp Try.func102 rfl trivial ?_ rfl
  simp only [Try.ntmps102, List.size_toArray, List.length_cons, List.length_nil, Nat.reduceAdd, Nat.reduceSub, Array.replicate_succ, Array.replicate_zero, List.push_toArray, List.append_toArray, List.nil_append, List.cons_append]
  gi_wp2_with fail
  refine ⟨trivial, ?_⟩
  gi_at_call 103
  refine (callsIn_wide.2 (join_any sa c xs W hS hN hlen)).mono ?_
  rintro e W1 ⟨rfl, hb1⟩
  have HB1 := hid hb1
  have hj1 : J [] W1 := HJ.out [] W W1 none h0 (below_grown hb1) (fun r e => by cases e)
  have hs1 : W.heap.size ≤ W1.heap.size := hb1.size
  clear hb1
  gi_wp2_with fail
  gi_loopw [4] (fun i wr => ∃ k : Nat, k ≤ ((joined xs).size + 1) / 2 ∧ i = .int .i64 (2 * (k : Int)) ∧ J (Sp.wds (joined xs) k) wr ∧ W.heap.size ≤ wr.heap.size)
    (fun i _ => (joined xs).size + 2 - (intOf i).toNat)
  case atStart => exact ⟨0, Nat.zero_le _, rfl, hj1, hs1⟩
  case round =>
    obtain ⟨k, hk, rfl, hjs, hsz⟩ := hrel
    by_cases hlt : 2 * k < (joined xs).size
    · gi_wp2_with fail
      refine ⟨trivial, ?_⟩
      gi_at_call 60
      have hmin : (min (2 * (k : Int) + 2) ((joined xs).size : Int)).toNat = min (2 * k + 2) (joined xs).size := by omega
      rw [hmin]
      have hz : ((joined xs).extract (2 * k) (min (2 * k + 2) (joined xs).size) ++ ⟨#[0]⟩).size ≤ maxLen := by
        rw [ByteArray.size_append, ByteArray.size_extract]; unfold maxLen; show _ + 1 ≤ _; omega
      refine (callsIn_wide.2 (two_any _ 0 wr hz (by decide))).mono ?_
      rintro e W2 ⟨rfl, hb2⟩
      have hj2 : J (Sp.wds (joined xs) k) W2 := HJ.out _ _ W2 none hjs (below_grown hb2) (fun r e => by cases e)
      have hs2 : W.heap.size ≤ W2.heap.size := by have := hb2.size; omega
      obtain ⟨fn, tmps, assign, body, hy, hR⟩ := HY.out (Sp.wds (joined xs) k) (Sp.wdS (joined xs) k) W2 hj2 (by simp [Sp.wds]; omega)
      simp only [Sp.wdS] at hy
      clear hb2 hz hmin
      have hwd := Sp.wd_bd (joined xs) k
      obtain ⟨hw1, hw2⟩ := hwd
      have HR := hid hR
      have Hsuc := hid (Sp.wds_succ (joined xs) k)
      clear hR
      rw [show Sp.num 65536 (Sp.textS ((joined xs).extract (2 * k) (min (2 * k + 2) (joined xs).size) ++ ⟨#[0]⟩) 0 2).data.toList = Sp.wd (joined xs) k from rfl]
      gi_wp2_with fail
      refine HR.out.mono ?_
      rintro e W3 (⟨rfl, hJ3, hk3⟩ | ⟨rfl, hJx3⟩)
      · rw [← Hsuc.out] at hJ3
        have hs3 : W.heap.size ≤ W3.heap.size := by have := hk3.size; omega
        clear hk3
        gi_wp2
        go_roundw
        case rel => exact ⟨k + 1, by omega, by go_num, hJ3, hs3⟩
        case measure => simp [intOf]; omega
      · gi_wp2
        refine bodyPost_ret (results_none rfl _ _ _) rfl ?_
        exact ⟨⟨_, rfl⟩, .inr ⟨_, trivial, hJx3⟩⟩
    · have hke : k = ((joined xs).size + 1) / 2 := by omega
      gi_wp2
      go_end0
      exact ⟨⟨_, rfl⟩, .inl ⟨_, by rw [hke], hjs⟩⟩

/-- The contract of the iterator value. -/
theorem words_stops (Bn c : Nat) (sa : Option Addr) (xs : List ByteArray) (n₀ : Nat) (w : World) (hn0 : n₀ ≤ w.heap.size)
    (hBn : w.cell? ⟨Bn, 0, none⟩ = some (.slice sa xs.length c)) (hBl : Bn < w.heap.size) (hS : Strs w sa c xs)
    (hN : xs.length ≤ 140737488355328) (hlen : (joined xs).size ≤ 140737488355328) :
    SeqStopsK Fence.wide 5 Try.prog 102 #[.pointer (some ⟨Bn, 0, none⟩)] (fun x : Sp.W16 => #[.int .u32 x.1]) (Below n₀)
      (fun ys => ys = Sp.wds (joined xs) (((joined xs).size + 1) / 2)) (fun _ => True) (((joined xs).size + 1) / 2) w := by
  intro l J Jx W hW hJ hJx hY h0
  exact words1_in l Bn c sa xs J Jx n₀ W (Nat.le_trans hn0 hW.size) hY hJ ((hW.cell (p := ⟨Bn, 0, none⟩) hBl).trans hBn) (hS.below hW) hN hlen h0

set_option maxHeartbeats 400000 in
theorem words_any (sa : Option Addr) (n c : Nat) (w : World) :
    Calls Try.prog 94 #[.slice sa n c] w fun e w' => e = .returned (.func (.func 102) #[] #[.pointer (some ⟨w.heap.size, 0, none⟩)]) ∧ w.alloc (.cells #[.slice sa n c] 110) = w' := by
  go_enter Try.func94, Try.ntmps94
  go_wp2
  go_ret
  exact ⟨rfl, rfl⟩

theorem cell_new_l (W : World) (v : Value) (t : TypeId) : (W.alloc (.cells #[v] t)).cell? ⟨W.heap.size, 0, none⟩ = some v ∧ (W.alloc (.cells #[v] t)).frozen? ⟨W.heap.size, 0, none⟩ = false :=
  ⟨by rw [World.cell?_alloc_new]; rfl, by rw [World.frozen?_alloc_new]⟩
theorem cell_alloc_l {W : World} {a : Addr} {v : Value} (o : Obj) (h : W.cell? a = some v) : (W.alloc o).cell? a = some v := cell_kept h (World.grownBy_alloc W o none) (fun r e => by cases e)
theorem frozen_alloc_l {W : World} {a : Addr} {v : Value} (o : Obj) (hc : W.cell? a = some v) (h : W.frozen? a = false) : (W.alloc o).frozen? a = false := (frozen_kept hc (World.grownBy_alloc W o none) (fun r e => by cases e)).trans h

set_option maxRecDepth 100000 in
set_option maxHeartbeats 2000000 in
theorem add_any (sa : Option Addr) (c : Nat) (xs : List ByteArray) (w : World) (hS : Strs w sa c xs) (hN : xs.length ≤ 140737488355328) (hlen : (joined xs).size ≤ 140737488355328) :
    Calls Try.prog 78 #[.slice sa xs.length c] w fun e w' => e = .returned (.int .u16 (Sp.sumB (joined xs))) ∧ Below w.heap.size w w' := by
  refine (callsIn_wide (n := 6)).1 ?_
  refine callsIn_of_wp_marks Try.func78 rfl trivial ?_ rfl
  simp only [Try.ntmps78, List.size_toArray, List.length_cons, List.length_nil, Nat.reduceAdd, Nat.reduceSub, Array.replicate_succ, Array.replicate_zero, List.push_toArray, List.append_toArray, List.nil_append, List.cons_append]
  gi_wp2_with fail
  refine ⟨trivial, ?_⟩
  gi_at_call 94
  refine (callsIn_wide.2 (words_any _ _ _ _)).mono ?_
  rintro e W1 ⟨rfl, rfl⟩
  gi_wp2_with fail
  have hs := cell_new_l w (.int .u32 0) 22
  have hb := cell_new_l (w.alloc (.cells #[.int .u32 0] 22)) (.slice sa xs.length c) 110
  rw [World.size_alloc] at hb
  have hB0 : Below w.heap.size w ((w.alloc (.cells #[.int .u32 0] 22)).alloc (.cells #[.slice sa xs.length c] 110)) := ((Below.refl _ w).alloc (Nat.le_refl _) _).alloc (by simp) _
  refine wpIn_rangeFunc_ownF rfl (by omega) (gf := 102) (lb := #[.pointer (some ⟨w.heap.size + 1, 0, none⟩)]) rfl trivial (enters_of Try.func102 (by kernel_rfl) rfl)
    (words_stops (w.heap.size + 1) c sa xs w.heap.size _ (by simp; omega) hb.1 (by simp) (hS.below hB0) hN hlen) belowK_t (belowK_b (by simp; omega)) (Below.refl _ _) (fun _ => rfl)
    (fun pre W => (W.cell? ⟨w.heap.size, 0, none⟩ = some (.int .u32 (Sp.sumW pre)) ∧ W.frozen? ⟨w.heap.size, 0, none⟩ = false) ∧ Below w.heap.size w W)
    (fun _ _ _ => False)
    (OwnFrom.and (Own.from (fun s A B row hs hg hr => ⟨cell_kept hs.1 hg hr, (frozen_kept hs.1 hg hr).trans hs.2⟩) _) (ownFrom_below (Nat.le_refl _) (by simp; omega)))
    (fun _ _ _ _ _ hs _ _ => hs)
    ⟨⟨cell_alloc_l _ hs.1, frozen_alloc_l _ hs.1 hs.2⟩, hB0⟩
    (fun x => { tmps := #[.slice sa xs.length c, undef, .int .u16 0, .pointer (some ⟨w.heap.size, 0, none⟩), .int .u32 x.1, .slice sa xs.length c, .func (.func 102) #[] #[.pointer (some ⟨w.heap.size + 1, 0, none⟩)], .int .u32 x.1, undef, undef, undef, undef, undef, undef, undef, undef, undef, undef], defers := [] }) ?assign ?body ?done ?stop
  case assign =>
    intro l x W K hK
    gi_wp2
    exact hK
  case body =>
    rintro l pre x W ⟨⟨hc, hf⟩, hB⟩ _
    obtain ⟨hx1, hx2⟩ := x.2
    obtain ⟨hs1, hs2⟩ := Sp.sumW_bd pre
    have hst := hid (Sp.addStep_walk (Sp.sumW pre) x.1 hs1 hs2 hx1 hx2)
    gi_wp2
    rw [hst.out]
    exact ⟨(KeepsOthers.setCell _ _ _).trans (KeepsOthers.setCell _ _ _), ((Below.refl w.heap.size W).setCell (p := ⟨w.heap.size, 0, none⟩) (Nat.le_refl _) _).setCell (p := ⟨w.heap.size, 0, none⟩) (Nat.le_refl _) _,
      ⟨by rw [Sp.sumW_snoc]; exact World.cell?_setCell_same' _ _ _ (by rw [World.cell?_setCell_same' _ _ _ (by rw [hc]; rfl)]; rfl), by rw [World.frozen?_setCell, World.frozen?_setCell]; exact hf⟩, (hB.setCell (p := ⟨w.heap.size, 0, none⟩) (Nat.le_refl _) _).setCell (p := ⟨w.heap.size, 0, none⟩) (Nat.le_refl _) _⟩
  case done =>
    rintro D ys W hD rfl ⟨⟨hc, _⟩, hB⟩ hK
    obtain ⟨hs1, hs2⟩ := Sp.sumW_bd (Sp.wds (joined xs) (((joined xs).size + 1) / 2))
    gi_wp2
    refine ⟨by simp, .inl ⟨_, _, rfl, run_takeDeferred hK, ?_⟩⟩
    exact ⟨_, results_tmp rfl _ _ _, rfl, hB.trans (belowK_b (w := w) (Nat.le_refl _) W D _ _ (by simp at hD; omega) hK rfl rfl)⟩
  case stop =>
    rintro D c pre W _ _ h _
    exact h.elim

set_option maxHeartbeats 400000 in
theorem sumOf_any (sa : Option Addr) (c : Nat) (xs : List ByteArray) (w : World) (hS : Strs w sa c xs) (hN : xs.length ≤ 140737488355328) (hlen : (joined xs).size ≤ 140737488355328) :
    Calls Try.prog 45 #[.slice sa xs.length c] w fun e w' => e = .returned (.int .u16 (65535 - Sp.sumB (joined xs))) ∧ Below w.heap.size w w' := by
  obtain ⟨h1, h2⟩ := Sp.sumB_bd (joined xs)
  go_enter Try.func45, Try.ntmps45
  go_wp2_with (go_at_call 78; refine (add_any _ _ _ _ hS hN hlen).mono ?_; rintro e w' ⟨rfl, hb⟩)
  rw [Sp.u16_not _ h1 h2]
  go_ret
  exact ⟨rfl, hb⟩

set_option maxHeartbeats 400000 in
theorem right_any (sa : Option Addr) (c : Nat) (xs : List ByteArray) (w : World) (hS : Strs w sa c xs) (hN : xs.length ≤ 140737488355328) (hlen : (joined xs).size ≤ 140737488355328) :
    Calls Try.prog 48 #[.slice sa xs.length c] w fun e w' => e = .returned (.bool (Sp.sumB (joined xs) == 65535)) ∧ Below w.heap.size w w' := by
  obtain ⟨h1, h2⟩ := Sp.sumB_bd (joined xs)
  have he := hid (show (65535 - Sp.sumB (joined xs) == 0) = (Sp.sumB (joined xs) == 65535) by rw [Bool.eq_iff_iff]; simp; omega)
  go_enter Try.func48, Try.ntmps48
  go_wp2_with (go_at_call 45; refine (sumOf_any _ _ _ _ hS hN hlen).mono ?_; rintro e w' ⟨rfl, hb⟩)
  rw [he.out]
  go_ret
  exact ⟨rfl, hb⟩

end Go.Proofs.Ytnmeeafnobfobaa
