/- Contract of udp.Encode. -/
import Derived.Test.YtlpeefemffmpmaaTurn
import Derived.Test.YtlpeefemffmpmaaUdpS
import Derived.Deep.QuietTactic
import Derived.BigQuiet
import Derived.Deep.RegionHeld3
namespace Go.Proofs.Ytlpeefemffmpmaa
open Go.RowKit
set_option linter.unusedVariables false

set_option maxHeartbeats 400000 in
set_option maxRecDepth 100000 in
theorem udpEncode_long (x p y q : Int) (d : ByteArray) (w : World) (hd : (65507 : Int) < d.size) (hd2 : d.size ≤ maxLen) :
    Calls Try.prog 29 #[.agg #[.int .u32 x, .int .u16 p, .int .u32 y, .int .u16 q, .string d]] w fun e w' => e = .returned (.tuple #[.string ⟨#[]⟩, .int .i64 4]) ∧ Below w.heap.size w w' := by
  go_enter Try.func29, Try.ntmps29
  go_wp2_with fail
  go_ret2
  exact ⟨rfl, (Below.refl _ _).alloc (Nat.le_refl _) _⟩

set_option maxHeartbeats 1000000 in
set_option maxRecDepth 100000 in
theorem udpEncode_any (x p y q : Int) (d : ByteArray) (w : World) (hd : (d.size : Int) ≤ 65507) (hx : 0 ≤ x) (hx2 : x < 4294967296) (hy : 0 ≤ y) (hy2 : y < 4294967296) (hp : 0 ≤ p) (hp2 : p ≤ 65535) (hq : 0 ≤ q) (hq2 : q ≤ 65535)
    (c0 : Int) (hc0 : Sp.udpSum0 x y p q d = c0) (h1 : (c0 == 0) = false) (h2 : 0 ≤ c0) (h3 : c0 ≤ 65535) :
    Calls Try.prog 29 #[.agg #[.int .u32 x, .int .u16 p, .int .u32 y, .int .u16 q, .string d]] w fun e w' => e = .returned (.tuple #[.string (Sp.udpFront p q (8 + d.size) ++ Sp.ofB c0 2 ++ d), .int .i64 0]) ∧ Below w.heap.size w w' := by
  have s1 := Sp.ofB_size p 2
  have s2 := Sp.ofB_size q 2
  have s3 := Sp.ofB_size (8 + d.size) 2
  have up : IntKind.u64.wrap p = p := Sp.u64_wrap_in _ hp (by omega)
  have uq : IntKind.u64.wrap q = q := Sp.u64_wrap_in _ hq (by omega)
  have un : IntKind.u64.wrap (8 + (d.size : Int)) = 8 + (d.size : Int) := Sp.u64_wrap_in _ (by omega) (by omega)
  go_enter Try.func29, Try.ntmps29
  go_wp2_with fail
  obtain ⟨W0, hW0⟩ : ∃ W0, w.alloc (.cells #[.int .u32 x, .int .u16 p, .int .u32 y, .int .u16 q, .string d] 46) = W0 := ⟨_, rfl⟩
  have k0 : W0.cell? ⟨w.heap.size, 0, none⟩ = some (.int .u32 x) := by rw [← hW0, World.cell?_alloc_new]; rfl
  have k1 : W0.cell? ⟨w.heap.size, 1, none⟩ = some (.int .u16 p) := by rw [← hW0, World.cell?_alloc_new]; rfl
  have k2 : W0.cell? ⟨w.heap.size, 2, none⟩ = some (.int .u32 y) := by rw [← hW0, World.cell?_alloc_new]; rfl
  have k3 : W0.cell? ⟨w.heap.size, 3, none⟩ = some (.int .u16 q) := by rw [← hW0, World.cell?_alloc_new]; rfl
  have k4 : W0.cell? ⟨w.heap.size, 4, none⟩ = some (.string d) := by rw [← hW0, World.cell?_alloc_new]; rfl
  have hb0 : w.heap.size < W0.heap.size := by rw [← hW0]; simp
  have HW0 := hid (show Below w.heap.size w W0 by rw [← hW0]; exact (Below.refl _ _).alloc (Nat.le_refl _) _)
  rw [hW0]
  clear hW0
  have HB := Below.refl W0.heap.size W0
  go_region_held3 (fun w' => Below W0.heap.size W0 w' ∧ w'.cell? ⟨w.heap.size, 0, none⟩ = some (.int .u32 x) ∧ w'.cell? ⟨w.heap.size, 1, none⟩ = some (.int .u16 p) ∧ w'.cell? ⟨w.heap.size, 2, none⟩ = some (.int .u32 y) ∧ w'.cell? ⟨w.heap.size, 3, none⟩ = some (.int .u16 q) ∧ w'.cell? ⟨w.heap.size, 4, none⟩ = some (.string d))
    (exact keep5 hb0 hb0 hb0 hb0 hb0 k0 k1 k2 k3 k4 (by repeat (first | assumption | exact (‹Below W0.heap.size W0 _ ∧ _›).1 | apply below_new | apply below_drewN | apply Below.drew)))
    (first | (go_at_call 49; refine (Calls.since (w0 := W0) ?_ (of2_any _ _ ?_ ?_)).mono ?_; (first | assumption | (apply Below.drew; assumption) | (apply below_drewN; assumption) | (apply below_new; assumption) | exact (‹Below W0.heap.size W0 _ ∧ _›).1); omega; omega; rintro e w2 ⟨rfl, HB2⟩))
  obtain ⟨F, hF⟩ : ∃ F, Sp.ofB p 2 ++ Sp.ofB q 2 ++ Sp.ofB (8 + d.size) 2 = F := ⟨_, rfl⟩
  have hF' : Sp.udpFront p q (8 + d.size) = F := hF
  have hFz : F.size = 6 := by rw [← hF']; exact Sp.udpFront_size _ _ _
  have hFz' : F.size ≤ 6 := by omega
  have hHz := Sp.headB_size x y 17 (8 + d.size)
  have hsum : 65535 - Sp.sumB (Sp.headB x y 17 (8 + d.size) ++ (F ++ (⟨#[0, 0]⟩ ++ d))) = c0 := by rw [← hF', ← hc0]; rfl
  have hz4 : (Sp.headB x y 17 (8 + d.size) ++ (F ++ (⟨#[0, 0]⟩ ++ d))).size ≤ 140737488355328 := by
    rw [ByteArray.size_append, ByteArray.size_append, ByteArray.size_append, hHz, hFz]; show 12 + (6 + (2 + d.size)) ≤ _; omega
  rw [hF]
  have HF := hid hF'
  have uc : IntKind.u64.wrap c0 = c0 := Sp.u64_wrap_in _ h2 (by omega)
  clear hF hF' hc0 s1 s2 s3
  go_wp2_with fail
  go_region_held3 (fun w' => Below W0.heap.size W0 w' ∧ w'.cell? ⟨w.heap.size, 0, none⟩ = some (.int .u32 x) ∧ w'.cell? ⟨w.heap.size, 1, none⟩ = some (.int .u16 p) ∧ w'.cell? ⟨w.heap.size, 2, none⟩ = some (.int .u32 y) ∧ w'.cell? ⟨w.heap.size, 3, none⟩ = some (.int .u16 q) ∧ w'.cell? ⟨w.heap.size, 4, none⟩ = some (.string d))
    (exact keep5 hb0 hb0 hb0 hb0 hb0 k0 k1 k2 k3 k4 (by repeat (first | assumption | exact (‹Below W0.heap.size W0 _ ∧ _›).1 | apply below_new | apply below_drewN | apply Below.drew)))
    (first | (go_at_call 25; refine (Calls.since (w0 := W0) ?_ (head_any _ _ _ _ _ ?_ ?_ ?_ ?_ ?_ ?_)).mono ?_; (first | assumption | (apply Below.drew; assumption) | (apply below_drewN; assumption) | (apply below_new; assumption) | exact (‹Below W0.heap.size W0 _ ∧ _›).1); omega; omega; omega; omega; omega; omega; rintro e w3 ⟨rfl, HB3⟩) | (go_at_call 19; refine (sumOf4 _ _ _ _ _ _ W0 ?_ ?_ ?_).mono ?_; (first | assumption | (apply Below.drew; assumption) | (apply below_drewN; assumption) | (apply below_new; assumption) | exact (‹Below W0.heap.size W0 _ ∧ _›).1); simp; exact hz4; rw [hsum]; rintro e w4 ⟨rfl, HB4⟩))
  clear hHz hsum hz4 up uq un
  have nz : ¬ 9223372036854775807 < 8 + d.size := by omega
  have s4 := Sp.ofB_size c0 2
  go_wp2_with fail
  go_region_held3 (fun w' => Below W0.heap.size W0 w' ∧ w'.cell? ⟨w.heap.size, 0, none⟩ = some (.int .u32 x) ∧ w'.cell? ⟨w.heap.size, 1, none⟩ = some (.int .u16 p) ∧ w'.cell? ⟨w.heap.size, 2, none⟩ = some (.int .u32 y) ∧ w'.cell? ⟨w.heap.size, 3, none⟩ = some (.int .u16 q) ∧ w'.cell? ⟨w.heap.size, 4, none⟩ = some (.string d))
    (exact keep5 hb0 hb0 hb0 hb0 hb0 k0 k1 k2 k3 k4 (by repeat (first | assumption | exact (‹Below W0.heap.size W0 _ ∧ _›).1 | apply below_new | apply below_drewN | apply Below.drew)))
    (first | (go_at_call 49; refine (Calls.since (w0 := W0) ?_ (of2_any _ _ ?_ ?_)).mono ?_; (first | assumption | (apply Below.drew; assumption) | (apply below_drewN; assumption) | (apply below_new; assumption) | exact (‹Below W0.heap.size W0 _ ∧ _›).1); omega; omega; rintro e w5 ⟨rfl, HB5⟩))
  go_wp2_with fail
  go_ret2
  exact ⟨by rw [HF.out]; rfl, HW0.out.trans (HB5.mono HW0.out.size)⟩
set_option maxHeartbeats 1000000 in
set_option maxRecDepth 100000 in
theorem udpEncode_zero (x p y q : Int) (d : ByteArray) (w : World) (hd : (d.size : Int) ≤ 65507) (hx : 0 ≤ x) (hx2 : x < 4294967296) (hy : 0 ≤ y) (hy2 : y < 4294967296) (hp : 0 ≤ p) (hp2 : p ≤ 65535) (hq : 0 ≤ q) (hq2 : q ≤ 65535)
    (c0 : Int) (hc0 : Sp.udpSum0 x y p q d = c0) (h1 : c0 = 0) :
    Calls Try.prog 29 #[.agg #[.int .u32 x, .int .u16 p, .int .u32 y, .int .u16 q, .string d]] w fun e w' => e = .returned (.tuple #[.string (Sp.udpFront p q (8 + d.size) ++ Sp.ofB 65535 2 ++ d), .int .i64 0]) ∧ Below w.heap.size w w' := by
  have s1 := Sp.ofB_size p 2
  have s2 := Sp.ofB_size q 2
  have s3 := Sp.ofB_size (8 + d.size) 2
  have up : IntKind.u64.wrap p = p := Sp.u64_wrap_in _ hp (by omega)
  have uq : IntKind.u64.wrap q = q := Sp.u64_wrap_in _ hq (by omega)
  have un : IntKind.u64.wrap (8 + (d.size : Int)) = 8 + (d.size : Int) := Sp.u64_wrap_in _ (by omega) (by omega)
  go_enter Try.func29, Try.ntmps29
  go_wp2_with fail
  obtain ⟨W0, hW0⟩ : ∃ W0, w.alloc (.cells #[.int .u32 x, .int .u16 p, .int .u32 y, .int .u16 q, .string d] 46) = W0 := ⟨_, rfl⟩
  have k0 : W0.cell? ⟨w.heap.size, 0, none⟩ = some (.int .u32 x) := by rw [← hW0, World.cell?_alloc_new]; rfl
  have k1 : W0.cell? ⟨w.heap.size, 1, none⟩ = some (.int .u16 p) := by rw [← hW0, World.cell?_alloc_new]; rfl
  have k2 : W0.cell? ⟨w.heap.size, 2, none⟩ = some (.int .u32 y) := by rw [← hW0, World.cell?_alloc_new]; rfl
  have k3 : W0.cell? ⟨w.heap.size, 3, none⟩ = some (.int .u16 q) := by rw [← hW0, World.cell?_alloc_new]; rfl
  have k4 : W0.cell? ⟨w.heap.size, 4, none⟩ = some (.string d) := by rw [← hW0, World.cell?_alloc_new]; rfl
  have hb0 : w.heap.size < W0.heap.size := by rw [← hW0]; simp
  have HW0 := hid (show Below w.heap.size w W0 by rw [← hW0]; exact (Below.refl _ _).alloc (Nat.le_refl _) _)
  rw [hW0]
  clear hW0
  have HB := Below.refl W0.heap.size W0
  go_region_held3 (fun w' => Below W0.heap.size W0 w' ∧ w'.cell? ⟨w.heap.size, 0, none⟩ = some (.int .u32 x) ∧ w'.cell? ⟨w.heap.size, 1, none⟩ = some (.int .u16 p) ∧ w'.cell? ⟨w.heap.size, 2, none⟩ = some (.int .u32 y) ∧ w'.cell? ⟨w.heap.size, 3, none⟩ = some (.int .u16 q) ∧ w'.cell? ⟨w.heap.size, 4, none⟩ = some (.string d))
    (exact keep5 hb0 hb0 hb0 hb0 hb0 k0 k1 k2 k3 k4 (by repeat (first | assumption | exact (‹Below W0.heap.size W0 _ ∧ _›).1 | apply below_new | apply below_drewN | apply Below.drew)))
    (first | (go_at_call 49; refine (Calls.since (w0 := W0) ?_ (of2_any _ _ ?_ ?_)).mono ?_; (first | assumption | (apply Below.drew; assumption) | (apply below_drewN; assumption) | (apply below_new; assumption) | exact (‹Below W0.heap.size W0 _ ∧ _›).1); omega; omega; rintro e w2 ⟨rfl, HB2⟩))
  obtain ⟨F, hF⟩ : ∃ F, Sp.ofB p 2 ++ Sp.ofB q 2 ++ Sp.ofB (8 + d.size) 2 = F := ⟨_, rfl⟩
  have hF' : Sp.udpFront p q (8 + d.size) = F := hF
  have hFz : F.size = 6 := by rw [← hF']; exact Sp.udpFront_size _ _ _
  have hFz' : F.size ≤ 6 := by omega
  have hHz := Sp.headB_size x y 17 (8 + d.size)
  have hsum : 65535 - Sp.sumB (Sp.headB x y 17 (8 + d.size) ++ (F ++ (⟨#[0, 0]⟩ ++ d))) = 0 := by rw [← hF', ← h1, ← hc0]; rfl
  have hz4 : (Sp.headB x y 17 (8 + d.size) ++ (F ++ (⟨#[0, 0]⟩ ++ d))).size ≤ 140737488355328 := by
    rw [ByteArray.size_append, ByteArray.size_append, ByteArray.size_append, hHz, hFz]; show 12 + (6 + (2 + d.size)) ≤ _; omega
  rw [hF]
  have HF := hid hF'
  clear hF hF' hc0 s1 s2 s3
  go_wp2_with fail
  go_region_held3 (fun w' => Below W0.heap.size W0 w' ∧ w'.cell? ⟨w.heap.size, 0, none⟩ = some (.int .u32 x) ∧ w'.cell? ⟨w.heap.size, 1, none⟩ = some (.int .u16 p) ∧ w'.cell? ⟨w.heap.size, 2, none⟩ = some (.int .u32 y) ∧ w'.cell? ⟨w.heap.size, 3, none⟩ = some (.int .u16 q) ∧ w'.cell? ⟨w.heap.size, 4, none⟩ = some (.string d))
    (exact keep5 hb0 hb0 hb0 hb0 hb0 k0 k1 k2 k3 k4 (by repeat (first | assumption | exact (‹Below W0.heap.size W0 _ ∧ _›).1 | apply below_new | apply below_drewN | apply Below.drew)))
    (first | (go_at_call 25; refine (Calls.since (w0 := W0) ?_ (head_any _ _ _ _ _ ?_ ?_ ?_ ?_ ?_ ?_)).mono ?_; (first | assumption | (apply Below.drew; assumption) | (apply below_drewN; assumption) | (apply below_new; assumption) | exact (‹Below W0.heap.size W0 _ ∧ _›).1); omega; omega; omega; omega; omega; omega; rintro e w3 ⟨rfl, HB3⟩) | (go_at_call 19; refine (sumOf4 _ _ _ _ _ _ W0 ?_ ?_ ?_).mono ?_; (first | assumption | (apply Below.drew; assumption) | (apply below_drewN; assumption) | (apply below_new; assumption) | exact (‹Below W0.heap.size W0 _ ∧ _›).1); simp; exact hz4; rw [hsum]; rintro e w4 ⟨rfl, HB4⟩))
  clear hHz hsum hz4 up uq un
  have nz : ¬ 9223372036854775807 < 8 + d.size := by omega
  have e65 : bits .xor .u16 IntKind.u16.max 0 = 65535 := Sp.u16_not 0 (by decide) (by decide)
  have u65 : IntKind.u64.wrap 65535 = 65535 := by decide
  have s4 := Sp.ofB_size 65535 2
  go_wp2_with fail
  go_region_held3 (fun w' => Below W0.heap.size W0 w' ∧ w'.cell? ⟨w.heap.size, 0, none⟩ = some (.int .u32 x) ∧ w'.cell? ⟨w.heap.size, 1, none⟩ = some (.int .u16 p) ∧ w'.cell? ⟨w.heap.size, 2, none⟩ = some (.int .u32 y) ∧ w'.cell? ⟨w.heap.size, 3, none⟩ = some (.int .u16 q) ∧ w'.cell? ⟨w.heap.size, 4, none⟩ = some (.string d))
    (exact keep5 hb0 hb0 hb0 hb0 hb0 k0 k1 k2 k3 k4 (by repeat (first | assumption | exact (‹Below W0.heap.size W0 _ ∧ _›).1 | apply below_new | apply below_drewN | apply Below.drew)))
    (first | (go_at_call 49; refine (Calls.since (w0 := W0) ?_ (of2_any _ _ ?_ ?_)).mono ?_; (first | assumption | (apply Below.drew; assumption) | (apply below_drewN; assumption) | (apply below_new; assumption) | exact (‹Below W0.heap.size W0 _ ∧ _›).1); omega; omega; rintro e w5 ⟨rfl, HB5⟩))
  go_wp2_with fail
  go_ret2
  exact ⟨by rw [HF.out]; rfl, HW0.out.trans (HB5.mono HW0.out.size)⟩

theorem udpEncode_ok (x p y q : Int) (d : ByteArray) (w : World) (hd : (d.size : Int) ≤ 65507) (hx : 0 ≤ x) (hx2 : x < 4294967296) (hy : 0 ≤ y) (hy2 : y < 4294967296) (hp : 0 ≤ p) (hp2 : p ≤ 65535) (hq : 0 ≤ q) (hq2 : q ≤ 65535) :
    Calls Try.prog 29 #[.agg #[.int .u32 x, .int .u16 p, .int .u32 y, .int .u16 q, .string d]] w fun e w' => e = .returned (.tuple #[.string (Sp.udpB x y p q d), .int .i64 0]) ∧ Below w.heap.size w w' := by
  by_cases h : Sp.udpSum0 x y p q d = 0
  · have := udpEncode_zero x p y q d w hd hx hx2 hy hy2 hp hp2 hq hq2 _ rfl h
    unfold Sp.udpB Sp.udpSum; rw [if_pos h]; exact this
  · have hb := Sp.udpSum0_bd x y p q d
    have := udpEncode_any x p y q d w hd hx hx2 hy hy2 hp hp2 hq hq2 _ rfl (by simp [h]) hb.1 hb.2
    unfold Sp.udpB Sp.udpSum; rw [if_neg h]; exact this
end Go.Proofs.Ytlpeefemffmpmaa
