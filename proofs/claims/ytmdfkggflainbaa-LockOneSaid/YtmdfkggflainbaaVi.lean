/- Rows of numbers: symbolic lists. -/
import Derived.Test.YtmdfkggflainbaaVmR
namespace Go.Proofs.Ytmdfkggflainbaa.VM
open Go.RowKit
set_option linter.unusedVariables false
set_option linter.unusedSimpArgs false
theorem getD_at {l : List Int} {i : Nat} {d : Int} (h : i < l.length) : l.getD i d = l[i] := by simp [List.getD, h]
theorem getD_out {l : List Int} {i : Nat} {d : Int} (h : l.length ≤ i) : l.getD i d = d := by simp [List.getD, h]
/-- A row of numbers. -/
def i64SV : List Int → List SV
  | [] => []
  | n :: l => .int .i64 n :: i64SV l
theorem lenS_i64 : ∀ l : List Int, lenS (i64SV l) = l.length
  | [] => rfl
  | _ :: l => by simp [i64SV, lenS, lenS_i64 l]
theorem nth_i64 : ∀ (l : List Int) (i : Nat), nth (i64SV l) i = (l[i]?).map (SV.int .i64)
  | [], i => by cases i <;> rfl
  | x :: l, 0 => rfl
  | x :: l, i + 1 => by simp only [i64SV, nth, nth_i64 l i]; simp
theorem setN_i64 (v : Int) : ∀ (l : List Int) (i : Nat), setN (i64SV l) i [.int .i64 v] = i64SV (l.set i v)
  | [], 0 => rfl
  | [], i + 1 => rfl
  | x :: l, 0 => by cases l <;> rfl
  | x :: l, i + 1 => by simp only [i64SV, setN, List.set_cons_succ, setN_i64 v l i]
theorem Look.i64 {l : List Int} {i : Nat} {K : SV → Prop} (h : i < l.length) (g : K (.int .i64 (l.getD i (-1)))) : Look (i64SV l) i K :=
  ⟨_, by rw [nth_i64, List.getElem?_eq_getElem h]; rfl, by rw [getD_at h] at g; exact g⟩
theorem Look.i64s {l : List Int} {i j : Nat} {v : Int} {K : SV → Prop} (h : j < l.length) (g : K (.int .i64 ((l.set i v).getD j (-1)))) : Look (setN (i64SV l) i [.int .i64 v]) j K := by
  rw [setN_i64]; exact .i64 (by rw [List.length_set]; exact h) g
theorem Look.i64x {l : List Int} {i : Nat} (L : Int) {K : SV → Prop} (h : i = L.toNat ∧ L.toNat < l.length) (g : K (.int .i64 (l.getD L.toNat (-1)))) : Look (i64SV l) i K := by
  obtain ⟨rfl, h⟩ := h; exact .i64 h g
theorem repeatL_i64 (v : Int) : ∀ n, repeatL [.int .i64 v] n = i64SV (List.replicate n v)
  | 0 => rfl
  | n + 1 => by
    rw [List.replicate_succ]
    show repeatL [.int .i64 v] (n + 1) = .int .i64 v :: i64SV (List.replicate n v)
    rw [← repeatL_i64 v n]; rfl
theorem getN_i64 : ∀ (l : List Int) (o n : Nat), o + n ≤ l.length → getN (i64SV l) o n = some (i64SV ((l.drop o).take n)) := by
  have hd : ∀ (l : List Int) o, dropN (i64SV l) o = i64SV (l.drop o) := by
    intro l; induction l with
    | nil => intro o; cases o <;> rfl
    | cons x l ih => intro o; cases o with
      | zero => rfl
      | succ o => exact ih o
  have ht : ∀ (l : List Int) n, n ≤ l.length → takeN (i64SV l) n = some (i64SV (l.take n)) := by
    intro l; induction l with
    | nil => intro n h; cases n with
      | zero => rfl
      | succ n => simp at h
    | cons x l ih => intro n h; cases n with
      | zero => rfl
      | succ n => simp only [i64SV, takeN, ih n (by simpa using h), List.take_succ_cons]
  intro l o n h
  unfold getN; rw [hd, ht _ _ (by rw [List.length_drop]; omega)]
theorem setN_i64s : ∀ (l c : List Int) (o : Nat), o + c.length ≤ l.length → setN (i64SV l) o (i64SV c) = i64SV (l.take o ++ c ++ l.drop (o + c.length)) := by
  have ho : ∀ (l c : List Int), c.length ≤ l.length → over (i64SV l) (i64SV c) = i64SV (c ++ l.drop c.length) := by
    intro l; induction l with
    | nil => intro c h; cases c with
      | nil => rfl
      | cons y c => simp at h
    | cons x l ih => intro c h; cases c with
      | nil => rfl
      | cons y c => simp only [i64SV, over, ih c (by simpa using h), List.cons_append, List.length_cons, List.drop_succ_cons]
  intro l c o
  induction l generalizing o with
  | nil => intro h; have : o = 0 := by simp at h; omega
           subst this; simp at h; subst h; rfl
  | cons x l ih => cases o with
    | zero => intro h; simp only [setN, List.take_zero, List.nil_append, Nat.zero_add]; exact ho _ _ (by simpa using h)
    | succ o => intro h; simp only [i64SV, setN, List.take_succ_cons, List.cons_append]; rw [ih o (by simp at h; omega)]; congr 2; rw [show o + 1 + c.length = (o + c.length) + 1 by omega, List.drop_succ_cons]
theorem LookN.i64 {l : List Int} {o n : Nat} {K : List SV → Prop} (h : o + n ≤ l.length) (g : K (i64SV ((l.drop o).take n))) : LookN (i64SV l) o n K := ⟨_, getN_i64 l o n h, g⟩
theorem allFlat_i64 : ∀ l : List Int, allFlat (i64SV l) = true
  | [] => rfl
  | _ :: l => by simp only [i64SV, allFlat, SV.flat, allFlat_i64 l, Bool.and_self]
end Go.Proofs.Ytmdfkggflainbaa.VM
