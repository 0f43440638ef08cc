/- Walk of law SumWords: the cases together. -/
import Derived.Test.YtlpeefemffmpmaaLawWords
namespace Go.Proofs.Ytlpeefemffmpmaa
open Go.RowKit
set_option linter.unusedVariables false

set_option maxHeartbeats 400000 in
theorem sumWords_long (a b : ByteArray) (p x : Int) (w : World) (ha : a.size ≤ maxLen) (hb : b.size ≤ maxLen) (h : (4096 : Int) < a.size ∨ (4096 : Int) < b.size) :
    Calls Try.prog 5 #[.string a, .string b, .int .u16 p, .int .u16 x] w fun e w' => e = .returned (.bool true) ∧ Below w.heap.size w w' := by
  unfold maxLen at ha hb
  by_cases h1 : (4096 : Int) < a.size
  · go_enter Try.func5, Try.ntmps5
    go_wp2_with fail
    refine (alive02_any _).mono ?_
    rintro e w1 ⟨rfl, HB⟩
    go_wp2_with fail
    go_ret
    exact ⟨rfl, HB⟩
  · have h2 : (4096 : Int) < b.size := by omega
    go_enter Try.func5, Try.ntmps5
    go_wp2_with fail
    refine (alive02_any _).mono ?_
    rintro e w1 ⟨rfl, HB⟩
    go_wp2_with fail
    go_ret
    exact ⟨rfl, HB⟩

theorem sumWords_law (a0 b : ByteArray) (p x : Int) (w : World) (ha : a0.size ≤ maxLen) (hb : b.size ≤ maxLen) (hp : 0 ≤ p ∧ p ≤ 65535) (hx : 0 ≤ x ∧ x ≤ 65535) :
    Calls Try.prog 5 #[.string a0, .string b, .int .u16 p, .int .u16 x] w fun e w' => e = .returned (.bool true) ∧ Below w.heap.size w w' := by
  by_cases h : (4096 : Int) < a0.size ∨ (4096 : Int) < b.size
  · exact sumWords_long a0 b p x w ha hb h
  have hA : (a0.size : Int) ≤ 4096 := by omega
  have hB : (b.size : Int) ≤ 4096 := by omega
  obtain ⟨a, hs⟩ : ∃ a, a0.extract 0 (a0.size / 2 * 2) = a := ⟨_, rfl⟩
  have hsz : a.size = 2 * (a0.size / 2) := by rw [← hs, ByteArray.size_extract]; omega
  by_cases hz : a.size = 0
  · have hz' : ((a.size : Int) == 0) = true := by simp [hz]
    by_cases he : b.size % 2 = 0
    · exact sumWords_e0 a0 a b p x _ w hA hB hp.1 hp.2 hx.1 hx.2 hs rfl (by rw [beq_iff_eq]; omega) (by rw [Sp.sumB_comm a b (by omega) he]; simp) hz'
    · exact sumWords_o0 a0 a b p x _ w hA hB hp.1 hp.2 hx.1 hx.2 hs rfl (by rw [beq_eq_false_iff_ne]; omega) hz'
  have hz' : ((a.size : Int) == 0) = false := by rw [beq_eq_false_iff_ne]; omega
  have hm : 0 < ((a0.size / 2 : Nat) : Int) := by omega
  have a1 := Int.emod_nonneg p (show ((a0.size / 2 : Nat) : Int) ≠ 0 by omega)
  have a2 := Int.emod_lt_of_pos p hm
  have hkk : 2 * (p % ((a0.size / 2 : Nat) : Int)) = (((2 * (p % ((a0.size / 2 : Nat) : Int))).toNat : Nat) : Int) := by omega
  generalize (2 * (p % ((a0.size / 2 : Nat) : Int))).toNat = k at hkk
  have hk2 : k + 2 ≤ 2 * (a0.size / 2) := by omega
  have hke : k % 2 = 0 := by omega
  obtain ⟨c, hc⟩ : ∃ c, a.extract 0 k ++ Sp.ofB x 2 ++ a.extract (k + 2) a.size = c := ⟨_, rfl⟩
  have hc' : Sp.repl a k (Sp.ofB x 2) = c := hc
  have hw := Sp.word_bd a k
  by_cases he : b.size % 2 = 0
  · have he' : ((b.size : Int) % 2 == 0) = true := by rw [beq_iff_eq]; omega
    have hcm : (Sp.sumB (a ++ b) != Sp.sumB (b ++ a)) = false := by rw [Sp.sumB_comm a b (by omega) he]; simp
    by_cases h1 : Sp.word a k = x
    · exact sumWords_e_same a0 a b p x _ w hA hB hp.1 hp.2 hx.1 hx.2 hs rfl he' hcm hz' k hkk hk2 c hc h1 (Sp.words_eq a c k x hx.1 hx.2 hke (by omega) hc' h1)
    · by_cases h2 : Sp.word a k % 65535 = x % 65535
      · have h3 : Sp.word a k % 65535 = 0 ∧ x % 65535 = 0 := by
          rcases Sp.mod_eq _ _ hw.1 hw.2 hx.1 hx.2 h2 with h | h
          · exact (h1 h).elim
          · exact h
        by_cases h4 : Sp.sumB c = Sp.sumB a
        · exact sumWords_e_swapeq a0 a b p x _ w hA hB hp.1 hp.2 hx.1 hx.2 hs rfl he' hcm hz' k hkk hk2 c hc _ rfl hw.1 hw.2 (by simp [h1]) (by simp [h3.1]) (by simp [h3.2]) (by simp [h1]) h4
        · exact sumWords_e_swapne a0 a b p x _ w hA hB hp.1 hp.2 hx.1 hx.2 hs rfl he' hcm hz' k hkk hk2 c hc _ rfl hw.1 hw.2 (by simp [h1]) (by simp [h3.1]) (by simp [h3.2]) (by simp [h1]) (by simp [h4]) (by rcases Sp.words_same a c k x hx.1 hx.2 hke (by omega) hc' h2 with h | h; exact (h4 h).elim; simp [h])
      · have h4 := Sp.words_ne a c k x hx.1 hx.2 hke (by omega) hc' h2
        by_cases g1 : Sp.word a k % 65535 = 0
        · exact sumWords_e_diff2 a0 a b p x _ w hA hB hp.1 hp.2 hx.1 hx.2 hs rfl he' hcm hz' k hkk hk2 c hc _ rfl hw.1 hw.2 (by simp [h1]) (by simp [g1]) (by rw [beq_eq_false_iff_ne]; omega) (by simp [h4])
        · exact sumWords_e_diff1 a0 a b p x _ w hA hB hp.1 hp.2 hx.1 hx.2 hs rfl he' hcm hz' k hkk hk2 c hc _ rfl hw.1 hw.2 (by simp [h1]) (by simp [g1]) (by simp [h4])
  · have he' : ((b.size : Int) % 2 == 0) = false := by rw [beq_eq_false_iff_ne]; omega
    by_cases h1 : Sp.word a k = x
    · exact sumWords_o_same a0 a b p x _ w hA hB hp.1 hp.2 hx.1 hx.2 hs rfl he' hz' k hkk hk2 c hc h1 (Sp.words_eq a c k x hx.1 hx.2 hke (by omega) hc' h1)
    · by_cases h2 : Sp.word a k % 65535 = x % 65535
      · have h3 : Sp.word a k % 65535 = 0 ∧ x % 65535 = 0 := by
          rcases Sp.mod_eq _ _ hw.1 hw.2 hx.1 hx.2 h2 with h | h
          · exact (h1 h).elim
          · exact h
        by_cases h4 : Sp.sumB c = Sp.sumB a
        · exact sumWords_o_swapeq a0 a b p x _ w hA hB hp.1 hp.2 hx.1 hx.2 hs rfl he' hz' k hkk hk2 c hc _ rfl hw.1 hw.2 (by simp [h1]) (by simp [h3.1]) (by simp [h3.2]) (by simp [h1]) h4
        · exact sumWords_o_swapne a0 a b p x _ w hA hB hp.1 hp.2 hx.1 hx.2 hs rfl he' hz' k hkk hk2 c hc _ rfl hw.1 hw.2 (by simp [h1]) (by simp [h3.1]) (by simp [h3.2]) (by simp [h1]) (by simp [h4]) (by rcases Sp.words_same a c k x hx.1 hx.2 hke (by omega) hc' h2 with h | h; exact (h4 h).elim; simp [h])
      · have h4 := Sp.words_ne a c k x hx.1 hx.2 hke (by omega) hc' h2
        by_cases g1 : Sp.word a k % 65535 = 0
        · exact sumWords_o_diff2 a0 a b p x _ w hA hB hp.1 hp.2 hx.1 hx.2 hs rfl he' hz' k hkk hk2 c hc _ rfl hw.1 hw.2 (by simp [h1]) (by simp [g1]) (by rw [beq_eq_false_iff_ne]; omega) (by simp [h4])
        · exact sumWords_o_diff1 a0 a b p x _ w hA hB hp.1 hp.2 hx.1 hx.2 hs rfl he' hz' k hkk hk2 c hc _ rfl hw.1 hw.2 (by simp [h1]) (by simp [g1]) (by simp [h4])
end Go.Proofs.Ytlpeefemffmpmaa
