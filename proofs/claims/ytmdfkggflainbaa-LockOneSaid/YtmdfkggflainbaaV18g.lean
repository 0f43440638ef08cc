/- law 18 by the evaluator: scripts; contracts of one length. -/
import Derived.Test.YtmdfkggflainbaaV18f
import Derived.Test.YtmdfkggflainbaaV18a
import Derived.Test.YtmdfkggflainbaaVmGl
namespace Go.Proofs.Ytmdfkggflainbaa.VM
namespace G5
open Go.RowKit
set_option linter.unusedVariables false
set_option linter.unusedSimpArgs false
set_option maxRecDepth 100000
variable {G : Ground}
/-- A script's cells. -/
def stepSV : List (Bool × Int × Int) → List SV
  | [] => []
  | x :: l => .bool x.1 :: .int .i64 x.2.1 :: .int .i64 x.2.2 :: stepSV l
theorem step_get : ∀ (l : List (Bool × Int × Int)) (i : Nat) {x : Bool × Int × Int}, l[i]? = some x → getN (stepSV l) (i * 3) 3 = some [.bool x.1, .int .i64 x.2.1, .int .i64 x.2.2]
  | [], i, x, h => by simp at h
  | y :: l, 0, x, h => by
    simp at h; subst h
    have hz : ∀ m : List SV, takeN m 0 = some [] := fun m => by cases m <;> rfl
    show takeN (.bool y.1 :: .int .i64 y.2.1 :: .int .i64 y.2.2 :: stepSV l) 3 = _
    simp only [takeN, hz]
  | y :: l, i + 1, x, h => by
    have h' : l[i]? = some x := by simpa using h
    have := step_get l i h'
    rw [show (i + 1) * 3 = i * 3 + 3 by omega]
    exact this
theorem LookN.step {l : List (Bool × Int × Int)} {o : Nat} (i : Nat) {x : Bool × Int × Int} {K : List SV → Prop} (h : l[i]? = some x) (ho : o = i * 3) (g : K [.bool x.1, .int .i64 x.2.1, .int .i64 x.2.2]) : LookN (stepSV l) o 3 K := by
  subst ho; exact ⟨_, step_get l i h, g⟩
theorem step_rows : ∀ (rows : List (List SV)), (∀ r ∈ rows, okZ [.bool, .int .i64, .int .i64] r) → ∃ xs : List (Bool × Int × Int), rows.flatten = stepSV xs ∧ xs.length = rows.length ∧ True
  | [], _ => ⟨[], rfl, rfl, trivial⟩
  | r :: rows, h => by
    obtain ⟨b, r1, rfl, n, r2, rfl, _, m, r3, rfl, _, h3⟩ := h r (by simp)
    simp only [okZ] at h3; subst h3
    obtain ⟨xs, h1, h2, _⟩ := step_rows rows (fun r hr => h r (by simp [hr]))
    exact ⟨(b, n, m) :: xs, by simp only [List.flatten_cons, stepSV, h1]; rfl, by simp [h2], trivial⟩
@[reducible] def lockAt (a : Nat) (o sp : Nat → Int) (n : Nat) : List SV := [.slc a 0 n (.is n), .int .i64 (o 0), .int .i64 (o 1), .int .i64 (o 2), .int .i64 (o 3), .int .i64 (o 4), .int .i64 (o 5), .int .i64 (o 6), .int .i64 (o 7), .int .u64 (sp 0), .int .u64 (sp 1), .int .u64 (sp 2), .int .u64 (sp 3), .int .u64 (sp 4), .int .u64 (sp 5), .int .u64 (sp 6), .int .u64 (sp 7)]
@[reducible] def refAt (a : Nat) (sp : Nat → Int) (n : Nat) : List SV := [.slc a 0 n (.upto 1), .int .u64 (sp 0), .int .u64 (sp 1), .int .u64 (sp 2), .int .u64 (sp 3), .int .u64 (sp 4), .int .u64 (sp 5), .int .u64 (sp 6), .int .u64 (sp 7)]
@[reducible] def lockN (s : LS) (n : Nat) : List Row := [.row true false (lockSV s.of_ s.sp n), .row true true (i64SV s.own)]
@[reducible] def refN (s : LS) (n : Nat) : List Row := [.row true false (refSV s.sp n), .row true true (i64SV s.own)]
theorem try_n {n : Nat} {s : LS} (hl : s.own.length = n) (L C : Int) : Det G Try.prog 16 [.o (.ptr 0 0), .o (.int .i64 L), .o (.int .i64 C)] (lockN s n) (.t [.o (.int .u8 (tryA s L C)), .o (.int .i64 (tryE s L C))]) (lockN (tryS s L C) n) := by subst hl; exact try_det s L C
theorem free_n {n : Nat} {s : LS} (hl : s.own.length = n) (L C : Int) : Det G Try.prog 15 [.o (.ptr 0 0), .o (.int .i64 L), .o (.int .i64 C)] (lockN s n) (vI .i64 (freeE s L C)) (lockN (freeS s L C) n) := by subst hl; exact free_det s L C
theorem rtry_n {n : Nat} {s : LS} (hI : Inv n s) (hn : n ≤ 1024) (L C : Int) : Det G Try.prog 23 [.o (.ptr 0 0), .o (.int .i64 L), .o (.int .i64 C)] (refN s n) (.t [.o (.int .u8 (tryA s L C)), .o (.int .i64 (tryE s L C))]) (refN (tryS s L C) n) := by
  have h := rtry_det (G := G) hI hn L C
  have hl := hI.len; subst hl; exact h
theorem rfree_n {n : Nat} {s : LS} (hl : s.own.length = n) (L C : Int) : Det G Try.prog 22 [.o (.ptr 0 0), .o (.int .i64 L), .o (.int .i64 C)] (refN s n) (vI .i64 (freeE s L C)) (refN (freeS s L C) n) := by subst hl; exact rfree_det s L C
theorem owner_yes {n : Nat} {s : LS} (hl : s.own.length = n) (k : Nat) (hk : k < n) (h : 0 ≤ s.own.getD k (-1)) : Det G Try.prog 24 [.o (.ptr 0 0), .o (.int .i64 k)] (lockN s n) (.t [.o (.int .i64 (s.own.getD k (-1))), .o (.bool true)]) (lockN s n) := by
  subst hl
  have d := owner_det (G := G) s k ⟨by omega, by omega⟩
  have e : s.at k = s.own.getD k (-1) := rfl
  rw [e, if_neg (by omega), decide_eq_true h] at d; exact d
theorem owner_no {n : Nat} {s : LS} (hl : s.own.length = n) (k : Nat) (hk : k < n) (h : ¬ 0 ≤ s.own.getD k (-1)) : Det G Try.prog 24 [.o (.ptr 0 0), .o (.int .i64 k)] (lockN s n) (.t [.o (.int .i64 0), .o (.bool false)]) (lockN s n) := by
  subst hl
  have d := owner_det (G := G) s k ⟨by omega, by omega⟩
  have e : s.at k = s.own.getD k (-1) := rfl
  rw [e, if_pos (by omega), decide_eq_false h] at d; exact d
theorem of_yes {n : Nat} {s : LS} (hl : s.own.length = n) (h0 : 0 < n) (c : Nat) (hc : c < 8) (h : 0 ≤ s.of_ c) : Det G Try.prog 25 [.o (.ptr 0 0), .o (.int .i64 c)] (lockN s n) (.t [.o (.int .i64 (s.of_ c)), .o (.bool true)]) (lockN s n) := by
  subst hl
  have d := of_det (G := G) s c hc h0
  rw [if_neg (by omega), decide_eq_true h] at d; exact d
theorem of_no {n : Nat} {s : LS} (hl : s.own.length = n) (h0 : 0 < n) (c : Nat) (hc : c < 8) (h : ¬ 0 ≤ s.of_ c) : Det G Try.prog 25 [.o (.ptr 0 0), .o (.int .i64 c)] (lockN s n) (.t [.o (.int .i64 0), .o (.bool false)]) (lockN s n) := by
  subst hl
  have d := of_det (G := G) s c hc h0
  rw [if_pos (by omega), decide_eq_false h] at d; exact d
theorem spins_n {n : Nat} {s : LS} (hl : s.own.length = n) (h0 : 0 < n) (c : Nat) (hc : c < 8) : Det G Try.prog 27 [.o (.ptr 0 0), .o (.int .i64 c)] (lockN s n) (vI .u64 (s.sp c)) (lockN s n) := by
  subst hl; exact spins_det s c hc h0
theorem rof_n {n : Nat} {s : LS} (hI : Inv n s) (hn : n ≤ 1024) (c : Nat) (hc : c < 8) : Det G Try.prog 26 [.o (.ptr 0 0), .o (.int .i64 c)] (refN s n) (vI .i64 (s.of_ c)) (refN s n) := by
  have h := rof_det (G := G) hI hn c hc
  have hl := hI.len; subst hl; exact h

end G5
end Go.Proofs.Ytmdfkggflainbaa.VM
