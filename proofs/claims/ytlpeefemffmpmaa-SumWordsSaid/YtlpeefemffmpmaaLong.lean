/- Contract of law 02's Long. -/
import Derived.Test.YtlpeefemffmpmaaTurn
namespace Go.Proofs.Ytlpeefemffmpmaa
open Go.RowKit
set_option linter.unusedVariables false

def LongPost (w : World) (xs : List ByteArray) (e : Ending) (w' : World) : Prop :=
  ∃ s b, e = .returned (.tuple #[.string s, .bool b]) ∧ w = w' ∧ (b = false → s = joined xs ∧ xs.length ≤ 100 ∧ (joined xs).size ≤ 8192)

theorem joined_take (xs : List ByteArray) (k : Nat) (x : ByteArray) (h : xs[k]? = some x) : joined (xs.take (k + 1)) = joined (xs.take k) ++ x := by
  rw [List.take_add_one, h, Option.toList_some, joined_append, joined_one]

set_option maxHeartbeats 400000 in
set_option maxRecDepth 100000 in
theorem long_any (sa : Option Addr) (c : Nat) (xs : List ByteArray) (w : World) (hS : Strs w sa c xs) (hN : xs.length ≤ maxLen) (hz : ∀ x ∈ xs, x.size ≤ maxLen) :
    Calls Try.prog 15 #[.slice sa xs.length c] w (LongPost w xs) := by
  unfold maxLen at hN
  by_cases h100 : (100 : Int) < (xs.length : Int)
  · go_enter Try.func15, Try.ntmps15
    go_wp2
    go_ret2
    exact ⟨_, _, rfl, rfl, fun h => by cases h⟩
  · go_enter Try.func15, Try.ntmps15
    go_wp2
    go_loop [4, 5] (fun s i => ∃ k : Nat, k ≤ xs.length ∧ i = .int .i64 k ∧ s = .string (joined (xs.take k)) ∧ (joined (xs.take k)).size ≤ 8192) (fun _ i => xs.length - (intOf i).toNat)
    case atStart => exact ⟨0, by omega, rfl, rfl, by rw [List.take_zero]; decide⟩
    case round =>
      obtain ⟨k, hk, rfl, rfl, hsz⟩ := hrel
      by_cases hlt : k < xs.length
      · obtain ⟨x, hx⟩ : ∃ x, xs[k]? = some x := ⟨xs[k], List.getElem?_eq_getElem hlt⟩
        have hxz : x.size ≤ maxLen := hz x (List.mem_of_getElem? hx)
        unfold maxLen at hxz
        have hj := hid (joined_take xs k x hx)
        rcases hS with rfl | ⟨bk, o, rfl, hbk, hcap, hcells⟩
        · simp at hlt
        · have hc := hcells k x hx
          clear hx hcells
          go_wp2
          · go_ret2
            exact ⟨_, _, rfl, rfl, fun h => by cases h⟩
          · refine ⟨⟨k + 1, by omega, by go_num, by rw [hj.out], ?_⟩, by simp [intOf]; omega⟩
            rw [hj.out, ByteArray.size_append]; omega
      · have hke : k = xs.length := by omega
        subst hke
        rw [List.take_length] at hsz ⊢
        go_wp2
        go_ret2
        exact ⟨_, _, rfl, rfl, fun _ => ⟨rfl, by omega, hsz⟩⟩
end Go.Proofs.Ytlpeefemffmpmaa
