/- word's reading, in the evaluator's form; strings.Repeat once. -/
import Derived.Test.YtnikpanebkknfaaDoorWord7
import Derived.Test.YtnikpanebkknfaaDoorB7
namespace Go.Proofs.YtnikpanebkknfaaDoor.VM
open Go.RowKit
set_option linter.unusedVariables false
variable {G : Ground}
theorem ent_wordTwo : Ent Tryd.prog 47 := ⟨_, Tryd.func47, by kernel_rfl, by kernel_rfl⟩
theorem ent_wordSix : Ent Tryd.prog 46 := ⟨_, Tryd.func46, by kernel_rfl, by kernel_rfl⟩
/-- The number of n bytes at a place. -/
def nAt (s : ByteArray) (p n : Nat) : Int := Sp.be ((s.data.toList.drop p).take n)
theorem textS_at (s : ByteArray) (p n : Nat) (h : p + n ≤ s.size) : (Sp.textS s p n).data.toList = (s.data.toList.drop p).take n ∧ Sp.textE s p n = 0 := by
  have ok : Sp.textOk s p n = true := by unfold Sp.textOk; simp; omega
  unfold Sp.textS Sp.textE
  rw [if_pos ok, if_pos ok, if_neg (by omega)]
  refine ⟨?_, rfl⟩
  rw [Sp.extract_toList, show ((p : Int) + n).toNat = p + n by omega, show ((p : Int)).toNat = p by omega, List.drop_take]
  congr 1; omega
theorem nAt_bd (s : ByteArray) (p n : Nat) (h : n ≤ 6) : 0 ≤ nAt s p n ∧ nAt s p n < 281474976710656 := by
  unfold nAt
  have := be_lt6 ((s.data.toList.drop p).take n) (by rw [List.length_take]; omega)
  omega
theorem nAt2_bd (s : ByteArray) (p : Nat) : 0 ≤ nAt s p 2 ∧ nAt s p 2 < 65536 := by
  unfold nAt
  have h1 := Sp.be_lt ((s.data.toList.drop p).take 2)
  have h2 : 256 ^ ((s.data.toList.drop p).take 2).length ≤ 256 ^ 2 := Nat.pow_le_pow_right (by decide) (by rw [List.length_take]; omega)
  have h3 : (256 : Nat) ^ 2 = 65536 := by decide
  omega
theorem wordTwo (s : ByteArray) (p : Nat) (h : p + 2 ≤ s.size) (hs : s.size ≤ 1000000) : Det G Tryd.prog 47 [.o (.str s), .o (.int .i64 p)] [] (.t [.o (.int .u16 (nAt s p 2)), .o (.int .i64 0)]) [] := det_flat ent_wordTwo rfl rfl fun w => by
  have k := two_any s p w (by unfold maxLen; omega) (by omega)
  obtain ⟨e1, e2⟩ := textS_at s p 2 h
  have hb := nAt2_bd s p
  rw [show ((2 : Nat) : Int) = 2 from rfl] at e1 e2
  rw [e1, e2] at k
  rw [show Sp.num 65536 ((s.data.toList.drop p).take 2) = nAt s p 2 by unfold Sp.num nAt; unfold nAt at hb; omega] at k
  exact k
theorem wordSix (s : ByteArray) (p : Nat) (h : p + 6 ≤ s.size) (hs : s.size ≤ 1000000) : Det G Tryd.prog 46 [.o (.str s), .o (.int .i64 p)] [] (.t [.o (.int .u64 (nAt s p 6)), .o (.int .i64 0)]) [] := det_flat ent_wordSix rfl rfl fun w => by
  have k := six_any s p w (by unfold maxLen; omega) (by omega)
  obtain ⟨e1, e2⟩ := textS_at s p 6 h
  rw [show ((6 : Nat) : Int) = 6 from rfl] at e1 e2
  rw [e1, e2] at k
  exact k
theorem rept1_any (s : ByteArray) (w : World) : Calls Tryd.prog 44 #[.string s, .int .i64 1] w fun e w' => e = .returned (.string s) ∧ w' = w := by
  go_enter Tryd.func44, Tryd.ntmps44
  go_wp2
  go_ret
  exact ⟨rfl, rfl⟩
theorem rept_det1 (s : ByteArray) : Det G Tryd.prog 44 [.o (.str s), .o (.int .i64 1)] [] (vS s) [] := det_flat ent_rept rfl rfl fun w => (rept1_any s w).mono (fun e w' ⟨h1, h2⟩ => ⟨h1, h2 ▸ Below.refl _ _⟩)
end Go.Proofs.YtnikpanebkknfaaDoor.VM
