/- law 15: UdpTells, the walk. -/
import Derived.Test.YtlpeefemffmpmaaUdpAl
import Derived.Test.YtlpeefemffmpmaaUdpF
namespace Go.Proofs.Ytlpeefemffmpmaa
open Go.RowKit
set_option linter.unusedVariables false
namespace Sp
def udpT (x y p q : Int) (d : ByteArray) : ByteArray := if (65507 : Int) < d.size then ⟨#[]⟩ else udpB x y p q d
def udpTe (d : ByteArray) : Int := if (65507 : Int) < d.size then 4 else 0
end Sp
theorem udpEncode_all (x p y q : Int) (d : ByteArray) (w : World) (hd : d.size ≤ maxLen) (hx : 0 ≤ x) (hx2 : x < 4294967296) (hy : 0 ≤ y) (hy2 : y < 4294967296) (hp : 0 ≤ p) (hp2 : p ≤ 65535) (hq : 0 ≤ q) (hq2 : q ≤ 65535) :
    Calls Try.prog 29 #[.agg #[.int .u32 x, .int .u16 p, .int .u32 y, .int .u16 q, .string d]] w fun e w' => e = .returned (.tuple #[.string (Sp.udpT x y p q d), .int .i64 (Sp.udpTe d)]) ∧ Below w.heap.size w w' := by
  unfold Sp.udpT Sp.udpTe
  by_cases h : (65507 : Int) < d.size
  · rw [if_pos h, if_pos h]; exact udpEncode_long x p y q d w h hd
  · rw [if_neg h, if_neg h]; exact udpEncode_ok x p y q d w (by omega) hx hx2 hy hy2 hp hp2 hq hq2
theorem rudpEncode_all (x p y q : Int) (d : ByteArray) (w : World) (hd : d.size ≤ maxLen) (hx : 0 ≤ x) (hx2 : x < 4294967296) (hy : 0 ≤ y) (hy2 : y < 4294967296) (hp : 0 ≤ p) (hp2 : p ≤ 65535) (hq : 0 ≤ q) (hq2 : q ≤ 65535) :
    Calls Try.prog 30 #[.agg #[.int .u32 x, .int .u16 p, .int .u32 y, .int .u16 q, .string d]] w fun e w' => e = .returned (.tuple #[.string (Sp.udpT x y p q d), .int .i64 (Sp.udpTe d)]) ∧ Below w.heap.size w w' := by
  unfold Sp.udpT Sp.udpTe
  by_cases h : (65507 : Int) < d.size
  · rw [if_pos h, if_pos h]; exact rudpEncode_long x p y q d w h hd
  · rw [if_neg h, if_neg h]; exact rudpEncode_ok x p y q d w (by omega) hx hx2 hy hy2 hp hp2 hq hq2
theorem Sp.udpV_agg (x y : Int) (s : ByteArray) : Sp.udpV x y s = .agg #[.int .u32 (Sp.udpX x y s), .int .u16 (Sp.udpP x y s), .int .u32 (Sp.udpY x y s), .int .u16 (Sp.udpQ x y s), .string (Sp.udpD x y s)] := rfl

set_option maxHeartbeats 2000000 in
set_option maxRecDepth 100000 in
theorem udpTells_far1 (x p y q : Int) (d : ByteArray) (f g : Int) (s : ByteArray) (w : World) (hx : 0 ≤ x) (hx2 : x < 4294967296) (hp : 0 ≤ p) (hp2 : p ≤ 65535) (hy : 0 ≤ y) (hy2 : y < 4294967296) (hq : 0 ≤ q) (hq2 : q ≤ 65535) (hd : d.size ≤ maxLen) (hf : 0 ≤ f) (hf2 : f < 4294967296) (hg : 0 ≤ g) (hg2 : g < 4294967296) (hs : s.size ≤ maxLen) (h : (131072 : Int) < d.size) :
    Calls Try.prog 7 #[.agg #[.int .u32 x, .int .u16 p, .int .u32 y, .int .u16 q, .string d], .int .u32 f, .int .u32 g, .string s] w fun e w' => e = .returned (.bool true) ∧ Below w.heap.size w w' := by
  go_enter Try.func7, Try.ntmps7
  go_wp2_with fail
  refine (Calls.since (below_new (Below.refl w.heap.size w) _) (alive15_any _)).mono ?_
  rintro e w1 ⟨rfl, HB⟩
  go_wp2_with fail
  go_ret
  exact ⟨rfl, HB⟩

set_option maxHeartbeats 2000000 in
set_option maxRecDepth 100000 in
theorem udpTells_far2 (x p y q : Int) (d : ByteArray) (f g : Int) (s : ByteArray) (w : World) (hx : 0 ≤ x) (hx2 : x < 4294967296) (hp : 0 ≤ p) (hp2 : p ≤ 65535) (hy : 0 ≤ y) (hy2 : y < 4294967296) (hq : 0 ≤ q) (hq2 : q ≤ 65535) (hd : d.size ≤ maxLen) (hf : 0 ≤ f) (hf2 : f < 4294967296) (hg : 0 ≤ g) (hg2 : g < 4294967296) (hs : s.size ≤ maxLen) (h : (d.size : Int) ≤ 131072) (h2 : (131072 : Int) < s.size) :
    Calls Try.prog 7 #[.agg #[.int .u32 x, .int .u16 p, .int .u32 y, .int .u16 q, .string d], .int .u32 f, .int .u32 g, .string s] w fun e w' => e = .returned (.bool true) ∧ Below w.heap.size w w' := by
  go_enter Try.func7, Try.ntmps7
  go_wp2_with fail
  refine (Calls.since (below_new (Below.refl w.heap.size w) _) (alive15_any _)).mono ?_
  rintro e w1 ⟨rfl, HB⟩
  go_wp2_with fail
  go_ret
  exact ⟨rfl, HB⟩

set_option maxHeartbeats 2000000 in
set_option maxRecDepth 100000 in
theorem udpTells_near (x p y q : Int) (d : ByteArray) (f g : Int) (s : ByteArray) (w : World) (hx : 0 ≤ x) (hx2 : x < 4294967296) (hp : 0 ≤ p) (hp2 : p ≤ 65535) (hy : 0 ≤ y) (hy2 : y < 4294967296) (hq : 0 ≤ q) (hq2 : q ≤ 65535) (hd : d.size ≤ maxLen) (hf : 0 ≤ f) (hf2 : f < 4294967296) (hg : 0 ≤ g) (hg2 : g < 4294967296) (hs : s.size ≤ maxLen) (h : (d.size : Int) ≤ 131072) (h2 : (s.size : Int) ≤ 131072) :
    Calls Try.prog 7 #[.agg #[.int .u32 x, .int .u16 p, .int .u32 y, .int .u16 q, .string d], .int .u32 f, .int .u32 g, .string s] w fun e w' => e = .returned (.bool true) ∧ Below w.heap.size w w' := by
  have hs3 : s.size ≤ 140737488355000 := by omega
  go_enter Try.func7, Try.ntmps7
  go_wp2_with fail
  obtain ⟨W0, hW0⟩ : ∃ W, w.alloc (.cells #[.int .u32 x, .int .u16 p, .int .u32 y, .int .u16 q, .string d] 46) = W := ⟨_, rfl⟩
  have b0 : w.heap.size < W0.heap.size := by rw [← hW0]; simp only [World.size_alloc]; omega
  have k0 : W0.cell? ⟨w.heap.size, 0, none⟩ = some (.int .u32 x) := by rw [← hW0]; exact cell_new_at _ _ _ _ _ _ (by simp) rfl
  have k1 : W0.cell? ⟨w.heap.size, 1, none⟩ = some (.int .u16 p) := by rw [← hW0]; exact cell_new_at _ _ _ _ _ _ (by simp) rfl
  have k2 : W0.cell? ⟨w.heap.size, 2, none⟩ = some (.int .u32 y) := by rw [← hW0]; exact cell_new_at _ _ _ _ _ _ (by simp) rfl
  have k3 : W0.cell? ⟨w.heap.size, 3, none⟩ = some (.int .u16 q) := by rw [← hW0]; exact cell_new_at _ _ _ _ _ _ (by simp) rfl
  have k4 : W0.cell? ⟨w.heap.size, 4, none⟩ = some (.string d) := by rw [← hW0]; exact cell_new_at _ _ _ _ _ _ (by simp) rfl
  have HW_W0 := hid (show Below w.heap.size w W0 by rw [← hW0]; exact below_new (Below.refl _ _) _)
  rw [hW0]
  clear hW0
  have HB := Below.refl W0.heap.size W0
  have D := udpEncode_all x p y q d W0 hd hx hx2 hy hy2 hp hp2 hq hq2
  refine (Calls.since HB D).mono ?_; clear HB D
  rintro e w1 ⟨rfl, HB⟩
  have k0_w1 := cell_stays HB b0 k0
  have k1_w1 := cell_stays HB b0 k1
  have k2_w1 := cell_stays HB b0 k2
  have k3_w1 := cell_stays HB b0 k3
  have k4_w1 := cell_stays HB b0 k4
  go_wp2_with fail
  have D := rudpEncode_all x p y q d w1 hd hx hx2 hy hy2 hp hp2 hq hq2
  refine (Calls.since HB D).mono ?_; clear HB D
  rintro e w2 ⟨rfl, HB⟩
  go_wp2_with fail
  have D := udpDecode_any f g s w2 hs3 hf hf2 hg hg2
  rw [Sp.udpV_agg] at D
  refine (Calls.since HB D).mono ?_; clear HB D
  rintro e w3 ⟨rfl, HB⟩
  go_wp2_with fail
  obtain ⟨W3, hW3⟩ : ∃ W, w3.alloc (.cells #[.int .u32 (Sp.udpX f g s), .int .u16 (Sp.udpP f g s), .int .u32 (Sp.udpY f g s), .int .u16 (Sp.udpQ f g s), .string (Sp.udpD f g s)] 46) = W := ⟨_, rfl⟩
  have HX : Below W0.heap.size W0 W3 := by rw [← hW3]; exact below_new (HB) _
  have b0' : w.heap.size < W3.heap.size := Nat.lt_of_lt_of_le b0 HX.size
  have k0' := cell_stays HX b0 k0
  have k1' := cell_stays HX b0 k1
  have k2' := cell_stays HX b0 k2
  have k3' := cell_stays HX b0 k3
  have k4' := cell_stays HX b0 k4
  have HW_W3 := hid (HW_W0.out.trans (HX.mono HW_W0.out.size))
  clear HX k0 k1 k2 k3 k4 b0 HW_W0
  have b0 := b0'
  have k0 := k0'
  have k1 := k1'
  have k2 := k2'
  have k3 := k3'
  have k4 := k4'
  clear b0' k0' k1' k2' k3' k4'
  have b1 : w3.heap.size < W3.heap.size := by rw [← hW3]; simp only [World.size_alloc]; omega
  have k5 : W3.cell? ⟨w3.heap.size, 0, none⟩ = some (.int .u32 (Sp.udpX f g s)) := by rw [← hW3]; exact cell_new_at _ _ _ _ _ _ (by simp) rfl
  have k6 : W3.cell? ⟨w3.heap.size, 1, none⟩ = some (.int .u16 (Sp.udpP f g s)) := by rw [← hW3]; exact cell_new_at _ _ _ _ _ _ (by simp) rfl
  have k7 : W3.cell? ⟨w3.heap.size, 2, none⟩ = some (.int .u32 (Sp.udpY f g s)) := by rw [← hW3]; exact cell_new_at _ _ _ _ _ _ (by simp) rfl
  have k8 : W3.cell? ⟨w3.heap.size, 3, none⟩ = some (.int .u16 (Sp.udpQ f g s)) := by rw [← hW3]; exact cell_new_at _ _ _ _ _ _ (by simp) rfl
  have k9 : W3.cell? ⟨w3.heap.size, 4, none⟩ = some (.string (Sp.udpD f g s)) := by rw [← hW3]; exact cell_new_at _ _ _ _ _ _ (by simp) rfl
  rw [hW3]
  clear hW3
  have HB := Below.refl W3.heap.size W3
  have D := rudpDecode_any f g s W3 hs3 hf hf2 hg hg2
  rw [Sp.udpV_agg] at D
  refine (Calls.since HB D).mono ?_; clear HB D
  rintro e w4 ⟨rfl, HB⟩
  have k0_w4 := cell_stays HB b0 k0
  have k1_w4 := cell_stays HB b0 k1
  have k2_w4 := cell_stays HB b0 k2
  have k3_w4 := cell_stays HB b0 k3
  have k4_w4 := cell_stays HB b0 k4
  have k5_w4 := cell_stays HB b1 k5
  have k6_w4 := cell_stays HB b1 k6
  have k7_w4 := cell_stays HB b1 k7
  have k8_w4 := cell_stays HB b1 k8
  have k9_w4 := cell_stays HB b1 k9
  have b0_w4 : w.heap.size < w4.heap.size := Nat.lt_of_lt_of_le b0 HB.size
  have b1_w4 : w3.heap.size < w4.heap.size := Nat.lt_of_lt_of_le b1 HB.size
  have HE := hid (HW_W3.out.trans (HB.mono HW_W3.out.size))
  go_wp2_with fail
  refine (Calls.since (w0 := w) ?_ (alive15_any _)).mono ?_
  · with_reducible repeat (first | exact HE.out | refine Below.drew ?_ | refine below_new ?_ _ | refine below_drewN ?_ _)
  rintro e w9 ⟨rfl, HB9⟩
  go_wp2_with fail
  go_ret
  exact ⟨rfl, HB9⟩
theorem udpTells_any (x p y q : Int) (d : ByteArray) (f g : Int) (s : ByteArray) (w : World) (hx : 0 ≤ x) (hx2 : x < 4294967296) (hp : 0 ≤ p) (hp2 : p ≤ 65535) (hy : 0 ≤ y) (hy2 : y < 4294967296) (hq : 0 ≤ q) (hq2 : q ≤ 65535) (hd : d.size ≤ maxLen) (hf : 0 ≤ f) (hf2 : f < 4294967296) (hg : 0 ≤ g) (hg2 : g < 4294967296) (hs : s.size ≤ maxLen) :
    Calls Try.prog 7 #[.agg #[.int .u32 x, .int .u16 p, .int .u32 y, .int .u16 q, .string d], .int .u32 f, .int .u32 g, .string s] w fun e w' => e = .returned (.bool true) ∧ Below w.heap.size w w' := by
  by_cases h : (131072 : Int) < d.size
  · exact udpTells_far1 x p y q d f g s w hx hx2 hp hp2 hy hy2 hq hq2 hd hf hf2 hg hg2 hs h
  by_cases h2 : (131072 : Int) < s.size
  · exact udpTells_far2 x p y q d f g s w hx hx2 hp hp2 hy hy2 hq hq2 hd hf hf2 hg hg2 hs (by omega) h2
  exact udpTells_near x p y q d f g s w hx hx2 hp hp2 hy hy2 hq hq2 hd hf hf2 hg hg2 hs (by omega) (by omega)
theorem udpTells_row (x p y q : Int) (d : ByteArray) (f g : Int) (s : ByteArray) (w : World) (hx : 0 ≤ x ∧ x ≤ 4294967295) (hp : 0 ≤ p ∧ p ≤ 65535) (hy : 0 ≤ y ∧ y ≤ 4294967295) (hq : 0 ≤ q ∧ q ≤ 65535) (hd : d.size ≤ maxLen) (hf : 0 ≤ f ∧ f ≤ 4294967295) (hg : 0 ≤ g ∧ g ≤ 4294967295) (hs : s.size ≤ maxLen) :
    Calls Try.prog 7 #[.agg #[.int .u32 x, .int .u16 p, .int .u32 y, .int .u16 q, .string d], .int .u32 f, .int .u32 g, .string s] w fun e w' => e = .returned (.bool true) ∧ Below w.heap.size w w' :=
  udpTells_any x p y q d f g s w hx.1 (by omega) hp.1 hp.2 hy.1 (by omega) hq.1 hq.2 hd hf.1 (by omega) hg.1 (by omega) hs
end Go.Proofs.Ytlpeefemffmpmaa
