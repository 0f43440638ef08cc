/- Contracts of package word: fields of bytes. -/
import Derived.Test.YtnmeeafnobfobaaRows
import Derived.Test.YtnmeeafnobfobaaSpec
import Derived.WalkKit
import Derived.WalkSpells
import Derived.WalkLawsBesides
import Derived.Lib.ConvBytes
namespace Go.Proofs.Ytnmeeafnobfobaa
open Go.RowKit
set_option linter.unusedVariables false

set_option maxHeartbeats 400000 in
theorem text_any (s : ByteArray) (p n : Int) (w : World) (hs : s.size ≤ maxLen) (hp : p ≤ 4611686018427387904) (hn : n ≤ 4611686018427387904) :
    Calls Try.prog 95 #[.string s, .int .i64 p, .int .i64 n] w fun e w' => e = .returned (.tuple #[.string (Sp.textS s p n), .int .i64 (Sp.textE s p n)]) ∧ w = w' := by
  unfold maxLen at hs
  by_cases h1 : p < 0
  · have e1 : Sp.textS s p n = ⟨#[]⟩ := by unfold Sp.textS Sp.textOk; simp; omega
    have e2 : Sp.textE s p n = 2 := by unfold Sp.textE; simp; omega
    rw [e1, e2]
    clear e1 e2
    go_enter Try.func95, Try.ntmps95
    go_wp2
    go_ret2
    exact ⟨rfl, rfl⟩
  by_cases h2 : n < 0
  · have e1 : Sp.textS s p n = ⟨#[]⟩ := by unfold Sp.textS Sp.textOk; simp; omega
    have e2 : Sp.textE s p n = 2 := by unfold Sp.textE; simp; omega
    rw [e1, e2]
    clear e1 e2
    go_enter Try.func95, Try.ntmps95
    go_wp2
    go_ret2
    exact ⟨rfl, rfl⟩
  by_cases h3 : (s.size : Int) < p
  · have e1 : Sp.textS s p n = ⟨#[]⟩ := by unfold Sp.textS Sp.textOk; simp; omega
    have e2 : Sp.textE s p n = 10 := by unfold Sp.textE Sp.textOk; simp; omega
    rw [e1, e2]
    clear e1 e2
    go_enter Try.func95, Try.ntmps95
    go_wp2
    go_ret2
    exact ⟨rfl, rfl⟩
  by_cases h4 : (s.size : Int) - p < n
  · have e1 : Sp.textS s p n = ⟨#[]⟩ := by unfold Sp.textS Sp.textOk; simp; omega
    have e2 : Sp.textE s p n = 10 := by unfold Sp.textE Sp.textOk; simp; omega
    rw [e1, e2]
    clear e1 e2
    go_enter Try.func95, Try.ntmps95
    go_wp2
    go_ret2
    exact ⟨rfl, rfl⟩
  have e1 : Sp.textS s p n = s.extract p.toNat (p + n).toNat := by unfold Sp.textS Sp.textOk; rw [if_pos]; simp; omega
  have e2 : Sp.textE s p n = 0 := by unfold Sp.textE Sp.textOk; simp; omega
  rw [e1, e2]
  clear e1 e2
  go_enter Try.func95, Try.ntmps95
  go_wp2
  go_ret2
  exact ⟨rfl, rfl⟩
theorem conv_bytes {P : Program} (w : World) (src dst e : TypeId) (s : ByteArray) {u : TypeDesc}
    (hs : P.underlying src = some u) (hd : P.underlying dst = some (.slice e)) (he : P.underlying e = some (.int .u8)) :
    ∃ cap W', (convert src dst (.string s)).run P w = .ok (.slice (some ⟨w.heap.size, 0, none⟩) s.size cap) W' ∧ Below w.heap.size w W' ∧ w.heap.size < W'.heap.size ∧
      ∀ j, j < s.size → W'.cell? ⟨w.heap.size, j, none⟩ = some (.int .u8 (s.data.toList.getD j 0).toNat) :=
  ⟨_, _, Lib.run_convert_string_bytes w src dst e s hs hd he,
    ⟨by simp [Lib.bytesWorld, World.freeze, World.alloc, World.drew, -World.alloc_eq, -World.drew_eq], by simp [Lib.bytesWorld, World.freeze, World.alloc, World.drew, -World.alloc_eq, -World.drew_eq], by simp [Lib.bytesWorld, World.freeze, World.alloc, World.drew, -World.alloc_eq, -World.drew_eq], by rw [Lib.bytesWorld_size]; omega, fun k hk => Lib.bytesWorld_at_old w e s k hk⟩,
    by rw [Lib.bytesWorld_size]; omega, fun j hj => Lib.bytesWorld_cell w e s j hj⟩


set_option maxHeartbeats 400000 in
set_option maxRecDepth 100000 in
theorem read16_any (s : ByteArray) (p n : Int) (w : World) (hs : s.size ≤ maxLen) (hp : p ≤ 4611686018427387904) (hn : n ≤ 4611686018427387904) :
    Calls Try.prog 88 #[.string s, .int .i64 p, .int .i64 n] w fun e w' => e = .returned (.tuple #[.int .u16 (Sp.num 65536 (Sp.textS s p n).data.toList), .int .i64 (Sp.textE s p n)]) ∧ Below w.heap.size w w' := by
  have hts := Sp.textS_size s p n
  unfold maxLen at hs
  obtain ⟨cap, W1, hconv, hb1, hsz, hcell⟩ := conv_bytes (P := Try.prog) w 9 45 5 (Sp.textS s p n) Try.underlying9 Try.underlying45 Try.underlying5
  go_enter Try.func88, Try.ntmps88
  go_wp2_with (go_at_call 95; refine (text_any _ _ _ _ (by unfold maxLen; omega) (by omega) (by omega)).mono ?_; rintro e w' ⟨rfl, rfl⟩)
  go_loop [6, 21] (fun x i => ∃ k : Nat, k ≤ (Sp.textS s p n).size ∧ i = .int .i64 k ∧ x = .int .u16 (Sp.num 65536 ((Sp.textS s p n).data.toList.take k))) (fun _ i => (Sp.textS s p n).size - (intOf i).toNat)
  case atStart => exact ⟨0, Nat.zero_le _, rfl, rfl⟩
  case round =>
    obtain ⟨k, hk, rfl, rfl⟩ := hrel
    by_cases hlt : k < (Sp.textS s p n).size
    · have hc := hcell k hlt
      have h1 := Sp.num_nonneg 65536 ((Sp.textS s p n).data.toList.take k)
      have h2 := Sp.num_lt 65536 ((Sp.textS s p n).data.toList.take k) (by omega)
      go_wp2
      go_round
      case rel => exact ⟨k + 1, by omega, by go_num, by rw [← Sp.num16_take _ _ hlt]⟩
      case measure => simp [intOf]; omega
    · go_wp2
      go_ret2
      exact ⟨by rw [List.take_of_length_le (by simp; omega)]; rfl, hb1⟩

set_option maxHeartbeats 400000 in
set_option maxRecDepth 100000 in
theorem read32_any (s : ByteArray) (p n : Int) (w : World) (hs : s.size ≤ maxLen) (hp : p ≤ 4611686018427387904) (hn : n ≤ 4611686018427387904) :
    Calls Try.prog 80 #[.string s, .int .i64 p, .int .i64 n] w fun e w' => e = .returned (.tuple #[.int .u32 (Sp.num 4294967296 (Sp.textS s p n).data.toList), .int .i64 (Sp.textE s p n)]) ∧ Below w.heap.size w w' := by
  have hts := Sp.textS_size s p n
  unfold maxLen at hs
  obtain ⟨cap, W1, hconv, hb1, hsz, hcell⟩ := conv_bytes (P := Try.prog) w 9 45 5 (Sp.textS s p n) Try.underlying9 Try.underlying45 Try.underlying5
  go_enter Try.func80, Try.ntmps80
  go_wp2_with (go_at_call 95; refine (text_any _ _ _ _ (by unfold maxLen; omega) (by omega) (by omega)).mono ?_; rintro e w' ⟨rfl, rfl⟩)
  go_loop [6, 21] (fun x i => ∃ k : Nat, k ≤ (Sp.textS s p n).size ∧ i = .int .i64 k ∧ x = .int .u32 (Sp.num 4294967296 ((Sp.textS s p n).data.toList.take k))) (fun _ i => (Sp.textS s p n).size - (intOf i).toNat)
  case atStart => exact ⟨0, Nat.zero_le _, rfl, rfl⟩
  case round =>
    obtain ⟨k, hk, rfl, rfl⟩ := hrel
    by_cases hlt : k < (Sp.textS s p n).size
    · have hc := hcell k hlt
      have h1 := Sp.num_nonneg 4294967296 ((Sp.textS s p n).data.toList.take k)
      have h2 := Sp.num_lt 4294967296 ((Sp.textS s p n).data.toList.take k) (by omega)
      go_wp2
      go_round
      case rel => exact ⟨k + 1, by omega, by go_num, by rw [← Sp.num32_take _ _ hlt]⟩
      case measure => simp [intOf]; omega
    · go_wp2
      go_ret2
      exact ⟨by rw [List.take_of_length_le (by simp; omega)]; rfl, hb1⟩

set_option maxHeartbeats 400000 in
theorem two_any (s : ByteArray) (p : Int) (w : World) (hs : s.size ≤ maxLen) (hp : p ≤ 4611686018427387904) :
    Calls Try.prog 60 #[.string s, .int .i64 p] w fun e w' => e = .returned (.tuple #[.int .u16 (Sp.num 65536 (Sp.textS s p 2).data.toList), .int .i64 (Sp.textE s p 2)]) ∧ Below w.heap.size w w' := by
  go_enter Try.func60, Try.ntmps60
  go_wp2_with (go_at_call 88; refine (read16_any _ _ _ _ hs (by omega) (by omega)).mono ?_; rintro e w' ⟨rfl, hb⟩)
  go_ret2
  exact ⟨rfl, hb⟩
-- Four

set_option maxHeartbeats 400000 in
theorem four_any (s : ByteArray) (p : Int) (w : World) (hs : s.size ≤ maxLen) (hp : p ≤ 4611686018427387904) :
    Calls Try.prog 49 #[.string s, .int .i64 p] w fun e w' => e = .returned (.tuple #[.int .u32 (Sp.num 4294967296 (Sp.textS s p 4).data.toList), .int .i64 (Sp.textE s p 4)]) ∧ Below w.heap.size w w' := by
  go_enter Try.func49, Try.ntmps49
  go_wp2_with (go_at_call 80; refine (read32_any _ _ _ _ hs (by omega) (by omega)).mono ?_; rintro e w' ⟨rfl, hb⟩)
  go_ret2
  exact ⟨rfl, hb⟩
end Go.Proofs.Ytnmeeafnobfobaa
