/- Contracts of package word's reading, and of its answer by definition. -/
import Derived.Test.YtnikpanebkknfaaDoorWordOf4
import Derived.WalkKit
import Derived.WalkSpells
import Derived.WalkLawsBesides
import Derived.Lib.ConvBytes
namespace Go.Proofs.YtnikpanebkknfaaDoor
open Go.RowKit
set_option linter.unusedVariables false

set_option maxHeartbeats 400000 in
theorem text_any (s : ByteArray) (p n : Int) (w : World) (hs : s.size ≤ maxLen) (hp : p ≤ 4611686018427387904) (hn : n ≤ 4611686018427387904) :
    Calls Tryd.prog 87 #[.string s, .int .i64 p, .int .i64 n] w fun e w' => e = .returned (.tuple #[.string (Sp.textS s p n), .int .i64 (Sp.textE s p n)]) ∧ w = w' := by
  unfold maxLen at hs
  by_cases h1 : p < 0
  · have e1 : Sp.textS s p n = ⟨#[]⟩ := by unfold Sp.textS Sp.textOk; simp; omega
    have e2 : Sp.textE s p n = 2 := by unfold Sp.textE; simp; omega
    rw [e1, e2]
    clear e1 e2
    go_enter Tryd.func87, Tryd.ntmps87
    go_wp2
    go_ret2
    exact ⟨rfl, rfl⟩
  by_cases h2 : n < 0
  · have e1 : Sp.textS s p n = ⟨#[]⟩ := by unfold Sp.textS Sp.textOk; simp; omega
    have e2 : Sp.textE s p n = 2 := by unfold Sp.textE; simp; omega
    rw [e1, e2]
    clear e1 e2
    go_enter Tryd.func87, Tryd.ntmps87
    go_wp2
    go_ret2
    exact ⟨rfl, rfl⟩
  by_cases h3 : (s.size : Int) < p
  · have e1 : Sp.textS s p n = ⟨#[]⟩ := by unfold Sp.textS Sp.textOk; simp; omega
    have e2 : Sp.textE s p n = 10 := by unfold Sp.textE Sp.textOk; simp; omega
    rw [e1, e2]
    clear e1 e2
    go_enter Tryd.func87, Tryd.ntmps87
    go_wp2
    go_ret2
    exact ⟨rfl, rfl⟩
  by_cases h4 : (s.size : Int) - p < n
  · have e1 : Sp.textS s p n = ⟨#[]⟩ := by unfold Sp.textS Sp.textOk; simp; omega
    have e2 : Sp.textE s p n = 10 := by unfold Sp.textE Sp.textOk; simp; omega
    rw [e1, e2]
    clear e1 e2
    go_enter Tryd.func87, Tryd.ntmps87
    go_wp2
    go_ret2
    exact ⟨rfl, rfl⟩
  have e1 : Sp.textS s p n = s.extract p.toNat (p + n).toNat := by unfold Sp.textS Sp.textOk; rw [if_pos]; simp; omega
  have e2 : Sp.textE s p n = 0 := by unfold Sp.textE Sp.textOk; simp; omega
  rw [e1, e2]
  clear e1 e2
  go_enter Tryd.func87, Tryd.ntmps87
  go_wp2
  go_ret2
  exact ⟨rfl, rfl⟩
theorem conv_bytes {P : Program} (w : World) (src dst e : TypeId) (s : ByteArray) {u : TypeDesc}
    (hs : P.underlying src = some u) (hd : P.underlying dst = some (.slice e)) (he : P.underlying e = some (.int .u8)) :
    ∃ cap W', (convert src dst (.string s)).run P w = .ok (.slice (some ⟨w.heap.size, 0, none⟩) s.size cap) W' ∧ Below w.heap.size w W' ∧ w.heap.size < W'.heap.size ∧
      ∀ j, j < s.size → W'.cell? ⟨w.heap.size, j, none⟩ = some (.int .u8 (s.data.toList.getD j 0).toNat) :=
  ⟨_, _, Lib.run_convert_string_bytes w src dst e s hs hd he,
    ⟨by simp [Lib.bytesWorld, World.freeze, World.alloc, World.drew, -World.alloc_eq, -World.drew_eq], by simp [Lib.bytesWorld, World.freeze, World.alloc, World.drew, -World.alloc_eq, -World.drew_eq], by simp [Lib.bytesWorld, World.freeze, World.alloc, World.drew, -World.alloc_eq, -World.drew_eq], by rw [Lib.bytesWorld_size]; omega, fun k hk => Lib.bytesWorld_at_old w e s k hk⟩,
    by rw [Lib.bytesWorld_size]; omega, fun j hj => Lib.bytesWorld_cell w e s j hj⟩


set_option maxHeartbeats 400000 in
set_option maxRecDepth 100000 in
theorem read16_any (s : ByteArray) (p n : Int) (w : World) (hs : s.size ≤ maxLen) (hp : p ≤ 4611686018427387904) (hn : n ≤ 4611686018427387904) :
    Calls Tryd.prog 73 #[.string s, .int .i64 p, .int .i64 n] w fun e w' => e = .returned (.tuple #[.int .u16 (Sp.num 65536 (Sp.textS s p n).data.toList), .int .i64 (Sp.textE s p n)]) ∧ Below w.heap.size w w' := by
  have hts := Sp.textS_size s p n
  unfold maxLen at hs
  obtain ⟨cap, W1, hconv, hb1, hsz, hcell⟩ := conv_bytes (P := Tryd.prog) w 9 25 5 (Sp.textS s p n) Tryd.underlying9 Tryd.underlying25 Tryd.underlying5
  go_enter Tryd.func73, Tryd.ntmps73
  go_wp2_with (go_at_call 87; refine (text_any _ _ _ _ (by unfold maxLen; omega) (by omega) (by omega)).mono ?_; rintro e w' ⟨rfl, rfl⟩)
  go_loop [6, 21] (fun x i => ∃ k : Nat, k ≤ (Sp.textS s p n).size ∧ i = .int .i64 k ∧ x = .int .u16 (Sp.num 65536 ((Sp.textS s p n).data.toList.take k))) (fun _ i => (Sp.textS s p n).size - (intOf i).toNat)
  case atStart => exact ⟨0, Nat.zero_le _, rfl, rfl⟩
  case round =>
    obtain ⟨k, hk, rfl, rfl⟩ := hrel
    by_cases hlt : k < (Sp.textS s p n).size
    · have hc := hcell k hlt
      have h1 := Sp.num_nonneg 65536 ((Sp.textS s p n).data.toList.take k)
      have h2 := Sp.num_lt 65536 ((Sp.textS s p n).data.toList.take k) (by omega)
      go_wp2
      go_round
      case rel => exact ⟨k + 1, by omega, by go_num, by rw [← Sp.num16_take _ _ hlt]⟩
      case measure => simp [intOf]; omega
    · go_wp2
      go_ret2
      exact ⟨by rw [List.take_of_length_le (by simp; omega)]; rfl, hb1⟩

set_option maxHeartbeats 400000 in
theorem two_any (s : ByteArray) (p : Int) (w : World) (hs : s.size ≤ maxLen) (hp : p ≤ 4611686018427387904) :
    Calls Tryd.prog 47 #[.string s, .int .i64 p] w fun e w' => e = .returned (.tuple #[.int .u16 (Sp.num 65536 (Sp.textS s p 2).data.toList), .int .i64 (Sp.textE s p 2)]) ∧ Below w.heap.size w w' := by
  go_enter Tryd.func47, Tryd.ntmps47
  go_wp2_with (go_at_call 73; refine (read16_any _ _ _ _ hs (by omega) (by omega)).mono ?_; rintro e w' ⟨rfl, hb⟩)
  go_ret2
  exact ⟨rfl, hb⟩

theorem be_lt6 (l : List UInt8) (h : l.length ≤ 6) : (Sp.be l : Int) < 281474976710656 := by
  have h1 := Sp.be_lt l
  have h2 : 256 ^ l.length ≤ 256 ^ 6 := Nat.pow_le_pow_right (by decide) h
  have h3 : (256 : Nat) ^ 6 = 281474976710656 := by decide
  omega
theorem be_take (s : ByteArray) (k : Nat) (h : k < s.size) (h6 : s.size ≤ 6) :
    bits .or .u64 ((Sp.be (s.data.toList.take k) : Int) * 256) (IntKind.u64.wrap ↑s.data[k].toNat) = (Sp.be (s.data.toList.take (k + 1)) : Int) := by
  have h1 : (Sp.be (s.data.toList.take k) : Int) < 281474976710656 := be_lt6 _ (by rw [List.length_take]; omega)
  have h3 := s.data[k].toNat_lt
  rw [Sp.take_snoc s k h, Sp.be_snoc, IntWalk.u64_in _ ⟨by omega, by omega⟩, Sp.u64_or256 _ _ (by omega) (by omega) (by omega) (by omega)]
  simp
theorem textS_size6 (s : ByteArray) (p : Int) : (Sp.textS s p 6).size ≤ 6 := by
  unfold Sp.textS; split
  · rw [ByteArray.size_extract]
    rename_i h; simp [Sp.textOk] at h; omega
  · show (#[] : Array UInt8).size ≤ _; simp
set_option maxHeartbeats 400000 in
set_option maxRecDepth 100000 in
theorem read64_any (s : ByteArray) (p : Int) (w : World) (hs : s.size ≤ maxLen) (hp : p ≤ 4611686018427387904) :
    Calls Tryd.prog 72 #[.string s, .int .i64 p, .int .i64 6] w fun e w' => e = .returned (.tuple #[.int .u64 (Sp.be (Sp.textS s p 6).data.toList), .int .i64 (Sp.textE s p 6)]) ∧ Below w.heap.size w w' := by
  have hts := Sp.textS_size s p 6
  have ht6 := textS_size6 s p
  unfold maxLen at hs
  obtain ⟨cap, W1, hconv, hb1, hsz, hcell⟩ := conv_bytes (P := Tryd.prog) w 9 25 5 (Sp.textS s p 6) Tryd.underlying9 Tryd.underlying25 Tryd.underlying5
  go_enter Tryd.func72, Tryd.ntmps72
  go_wp2_with (go_at_call 87; refine (text_any _ _ _ _ (by unfold maxLen; omega) (by omega) (by omega)).mono ?_; rintro e w' ⟨rfl, rfl⟩)
  go_loop [6, 21] (fun x i => ∃ k : Nat, k ≤ (Sp.textS s p 6).size ∧ i = .int .i64 k ∧ x = .int .u64 (Sp.be ((Sp.textS s p 6).data.toList.take k))) (fun _ i => (Sp.textS s p 6).size - (intOf i).toNat)
  case atStart => exact ⟨0, Nat.zero_le _, rfl, rfl⟩
  case round =>
    obtain ⟨k, hk, rfl, rfl⟩ := hrel
    by_cases hlt : k < (Sp.textS s p 6).size
    · have hc := hcell k hlt
      have h2 := be_lt6 ((Sp.textS s p 6).data.toList.take k) (by rw [List.length_take]; omega)
      go_wp2
      go_round
      case rel => exact ⟨k + 1, by omega, by go_num, by rw [← be_take _ _ hlt ht6]⟩
      case measure => simp [intOf]; omega
    · go_wp2
      go_ret2
      exact ⟨by rw [List.take_of_length_le (by simp; omega)]; rfl, hb1⟩
set_option maxHeartbeats 400000 in
theorem six_any (s : ByteArray) (p : Int) (w : World) (hs : s.size ≤ maxLen) (hp : p ≤ 4611686018427387904) :
    Calls Tryd.prog 46 #[.string s, .int .i64 p] w fun e w' => e = .returned (.tuple #[.int .u64 (Sp.be (Sp.textS s p 6).data.toList), .int .i64 (Sp.textE s p 6)]) ∧ Below w.heap.size w w' := by
  go_enter Tryd.func46, Tryd.ntmps46
  go_wp2_with (go_at_call 72; refine (read64_any _ _ _ hs (by omega)).mono ?_; rintro e w' ⟨rfl, hb⟩)
  go_ret2
  exact ⟨rfl, hb⟩
end Go.Proofs.YtnikpanebkknfaaDoor
