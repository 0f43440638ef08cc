/- law 10, plain: options which were written are read; what is read, and written, is read as the same. -/
import Derived.Test.YtnmeeafnobfobaaP10o
import Derived.Test.YtnmeeafnobfobaaV10q
namespace Go.Proofs.Ytnmeeafnobfobaa.VM
namespace G2
open Go.RowKit
set_option linter.unusedVariables false
theorem bAt_lst (u : ByteArray) (i : Nat) : bAt u i = ((u.data.toList[i]?.getD 0).toNat : Int) := rfl
theorem optL_one (d : ByteArray) : optL (1, d) = [1] := by simp [optL]
theorem optL_many {k : Int} {d : ByteArray} (h : 1 < k) : optL (k, d) = UInt8.ofNat k.toNat :: UInt8.ofNat (IntKind.u8.wrap ((d.size : Int) + 2)).toNat :: d.data.toList := by simp [optL, h]
theorem u8_of {k : Int} (h : 0 ≤ k ∧ k ≤ 255) : ((UInt8.ofNat k.toNat).toNat : Int) = k := by
  rw [UInt8.toNat_ofNat', Nat.mod_eq_of_lt (by omega)]; omega
theorem ba_empty {d : ByteArray} (h : d.size = 0) : d = ⟨#[]⟩ := by
  cases d; rename_i a; congr; exact Array.eq_empty_of_size_eq_zero h
theorem ba_ext {a b : ByteArray} (h : a.data.toList = b.data.toList) : a = b := by
  cases a; cases b; congr; exact Array.toList_inj.1 h
theorem optP_back : ∀ (xs : List (Int × ByteArray)) (f : Nat) (u : ByteArray) (acc : List (Int × ByteArray)) (k : Nat), xs.length < f → u.data.toList = optsL xs ++ List.replicate k 0 →
    (∀ x ∈ xs, optOk x ∧ (0 ≤ x.1 ∧ x.1 ≤ 255) ∧ x.2.size ≤ 253) → optP f u acc = some (acc ++ xs)
  | _, 0, _, _, _, hf, _, _ => by omega
  | [], f + 1, u, acc, k, hf, hu, hx => by
    simp only [optsL, List.flatMap_nil, List.nil_append] at hu
    rw [optP, List.append_nil]
    by_cases h0 : u.size = 0
    · rw [if_pos h0]
    · rw [if_neg h0, if_pos]
      rw [bAt_lst, hu]
      cases k with
      | zero => rfl
      | succ k => rfl
  | (k, d) :: xs, f + 1, u, acc, z, hf, hu, hx => by
    obtain ⟨⟨ok1, ok2⟩, hk, hd⟩ := hx _ (.head _)
    simp only at ok1 ok2 hk hd
    have hsz : u.size = u.data.toList.length := (Sp.size_toList u).symm
    rw [show optsL ((k, d) :: xs) = optL (k, d) ++ optsL xs from List.flatMap_cons, List.append_assoc] at hu
    have ih := fun u acc hu => optP_back xs f u acc z (by simp only [List.length_cons] at hf; omega) hu fun x hx' => hx x (.tail _ hx')
    have hsplit : ∀ n, (u.extract n u.size).data.toList = u.data.toList.drop n := fun n => by
      rw [Sp.extract_toList, List.take_of_length_le (by omega)]
    rw [optP]
    by_cases h1 : k = 1
    · subst h1
      have hd0 : d = ⟨#[]⟩ := ba_empty (by by_cases h : d.size = 0; exact h; exact absurd ⟨rfl, h⟩ ok2)
      subst hd0
      rw [optL_one] at hu
      have b0 : bAt u (Int.toNat 0) = 1 := by rw [bAt_lst, hu]; rfl
      rw [if_neg (by rw [hsz, hu]; simp), if_neg (by omega), if_pos b0, ih _ _ (by rw [hsplit, hu]; rfl)]
      simp
    · have h2 : 1 < k := by omega
      rw [optL_many h2] at hu
      have b0 : bAt u (Int.toNat 0) = k := by rw [bAt_lst, hu]; exact u8_of hk
      have b1 : bAt u (Int.toNat 1) = d.size + 2 := by
        rw [bAt_lst, hu]
        show ((UInt8.ofNat (IntKind.u8.wrap ((d.size : Int) + 2)).toNat).toNat : Int) = _
        rw [show IntKind.u8.wrap ((d.size : Int) + 2) = d.size + 2 by rw [IntKind.wrap_u8]; omega, u8_of (by omega)]
      have hl : u.size = 2 + d.size + (optsL xs ++ List.replicate z 0).length := by
        rw [hsz, hu]; simp only [List.cons_append, List.length_cons, List.length_append, Sp.size_toList]; omega
      have t1 : (d.size + 2 : Int).toNat = d.size + 2 := by omega
      rw [b0, b1, if_neg (by omega), if_neg (by omega), if_neg h1, if_neg (by omega), if_neg (by omega), if_neg (by omega), t1,
        ih _ _ (by rw [hsplit, hu, List.cons_append, List.cons_append, List.drop_succ_cons, List.drop_succ_cons, List.drop_left' (Sp.size_toList d)])]
      have hex : u.extract (Int.toNat 2) (d.size + 2) = d := by
        apply ba_ext
        rw [Sp.extract_toList, hu, List.cons_append, List.cons_append, show Int.toNat 2 = 2 from rfl, List.take_succ_cons, List.take_succ_cons, List.drop_succ_cons, List.drop_succ_cons, List.drop_zero, List.take_left' (Sp.size_toList d)]
      rw [hex]; simp
theorem opts_list {xs : List (Int × ByteArray)} (h : opts10e xs = 0) : (opts10 xs).data.toList = optsL xs ++ List.replicate ((4 - (optsL xs).length % 4) % 4) 0 := by
  unfold opts10
  rw [if_pos h, Sp.append_toList]
theorem opts_ok {xs : List (Int × ByteArray)} (h : opts10e xs = 0) : optsBad xs = false ∧ (optsL xs).length ≤ 40 := by
  unfold opts10e at h
  split at h
  · cases h
  · rename_i hb
    split at h
    · cases h
    · exact ⟨by simpa using hb, by omega⟩
theorem opts_size {xs : List (Int × ByteArray)} (h : opts10e xs = 0) : (opts10 xs).size = ((optsL xs).length + 3) / 4 * 4 := by
  rw [← Sp.size_toList, opts_list h, List.length_append, List.length_replicate]; omega
theorem opts_mod {xs : List (Int × ByteArray)} (h : opts10e xs = 0) : (opts10 xs).size % 4 = 0 ∧ (opts10 xs).size ≤ 40 := by
  have := opts_ok h; rw [opts_size h]; omega
theorem optL_size {x : Int × ByteArray} (h : optOk x) (hk : 0 ≤ x.1 ∧ x.1 ≤ 255) : x.2.size + 1 ≤ (optL x).length := by
  unfold optL optOk at *
  split
  · simp only [List.length_cons, Sp.size_toList]; omega
  · rename_i h1
    by_cases e : x.1 = 1
    · have : x.2.size = 0 := by by_cases h0 : x.2.size = 0; exact h0; exact absurd ⟨e, h0⟩ h.2
      simp [this]
    · simp only [List.length_cons, List.length_nil]
      omega
theorem optL_mem {xs : List (Int × ByteArray)} {x : Int × ByteArray} (hx : x ∈ xs) : (optL x).length ≤ (optsL xs).length := by
  obtain ⟨a, b, rfl⟩ := List.append_of_mem hx
  rw [show optsL (a ++ x :: b) = optsL a ++ (optL x ++ optsL b) by simp [optsL]]
  simp only [List.length_append]; omega
theorem optOk_of {xs : List (Int × ByteArray)} (h : optsBad xs = false) : ∀ x ∈ xs, optOk x := fun x hx => by
  apply Classical.byContradiction
  intro hn
  rw [(optsBad_iff xs).2 ⟨x, hx, hn⟩] at h; cases h
theorem optL_pos (x : Int × ByteArray) : 1 ≤ (optL x).length := by unfold optL; simp
theorem optsL_ge : ∀ (xs : List (Int × ByteArray)), xs.length ≤ (optsL xs).length
  | [] => Nat.zero_le _
  | x :: xs => by
    rw [show optsL (x :: xs) = optL x ++ optsL xs from List.flatMap_cons, List.length_append, List.length_cons]
    have := optL_pos x; have := optsL_ge xs; omega
/-- What was written is read. -/
theorem opts_read {xs : List (Int × ByteArray)} (h : opts10e xs = 0) (hk : ∀ x ∈ xs, 0 ≤ x.1 ∧ x.1 ≤ 255) : optP ((opts10 xs).size + 1) (opts10 xs) [] = some xs := by
  obtain ⟨h1, h2⟩ := opts_ok h
  have hl := opts_list h
  have := optP_back xs ((opts10 xs).size + 1) (opts10 xs) [] _ (by have := optsL_ge xs; rw [opts_size h]; omega) hl fun x hx =>
    ⟨optOk_of h1 x hx, hk x hx, by have := optL_size (optOk_of h1 x hx) (hk x hx); have := optL_mem hx; omega⟩
  rwa [List.nil_append] at this
/-- What is read may be written, and is no longer. -/
theorem optP_ok : ∀ (f : Nat) (u : ByteArray) (acc l : List (Int × ByteArray)), u.size < f → optP f u acc = some l → ∃ m, l = acc ++ m ∧ (∀ x ∈ m, optOk x ∧ (0 ≤ x.1 ∧ x.1 ≤ 255) ∧ x.2.size ≤ u.size) ∧ (optsL m).length ≤ u.size
  | 0, u, acc, l, hf, h => by omega
  | f + 1, u, acc, l, hf, h => by
    have hb0 := bAt_bd u (Int.toNat 0)
    have hb1 := bAt_bd u (Int.toNat 1)
    rw [optP] at h
    split at h
    · cases h; exact ⟨[], by simp, by simp, Nat.zero_le _⟩
    split at h
    · cases h; exact ⟨[], by simp, by simp, Nat.zero_le _⟩
    rename_i n0 n1
    split at h
    · rename_i n2
      have hz : (u.extract 1 u.size).size = u.size - 1 := by rw [ByteArray.size_extract]; omega
      obtain ⟨m, rfl, hm, hl⟩ := optP_ok f _ _ _ (by omega) h
      refine ⟨(1, ⟨#[]⟩) :: m, by simp, fun x hx => ?_, ?_⟩
      · rcases List.mem_cons.1 hx with rfl | hx
        · exact ⟨⟨by decide, fun h => h.2 rfl⟩, ⟨by decide, by decide⟩, Nat.zero_le _⟩
        · obtain ⟨g1, g2, g3⟩ := hm x hx; exact ⟨g1, g2, by omega⟩
      · rw [show optsL ((1, ⟨#[]⟩) :: m) = optL (1, ⟨#[]⟩) ++ optsL m from List.flatMap_cons, List.length_append, optL_one, List.length_singleton]; omega
    split at h
    · cases h
    split at h
    · cases h
    split at h
    · cases h
    · rename_i n2 n3 n4 n5
      have hz : (u.extract (bAt u (Int.toNat 1)).toNat u.size).size = u.size - (bAt u (Int.toNat 1)).toNat := by rw [ByteArray.size_extract]; omega
      have hy : (u.extract (Int.toNat 2) (bAt u (Int.toNat 1)).toNat).size = (bAt u (Int.toNat 1)).toNat - 2 := by rw [ByteArray.size_extract]; omega
      obtain ⟨m, rfl, hm, hl⟩ := optP_ok f _ _ _ (by omega) h
      refine ⟨(bAt u (Int.toNat 0), u.extract (Int.toNat 2) (bAt u (Int.toNat 1)).toNat) :: m, by simp, fun x hx => ?_, ?_⟩
      · rcases List.mem_cons.1 hx with rfl | hx
        · exact ⟨⟨n1, fun h => n2 h.1⟩, hb0, by simp only; omega⟩
        · obtain ⟨g1, g2, g3⟩ := hm x hx; exact ⟨g1, g2, by omega⟩
      · rw [show optsL ((bAt u (Int.toNat 0), u.extract (Int.toNat 2) (bAt u (Int.toNat 1)).toNat) :: m) = optL (bAt u (Int.toNat 0), u.extract (Int.toNat 2) (bAt u (Int.toNat 1)).toNat) ++ optsL m from List.flatMap_cons, List.length_append,
          optL_many (by omega)]
        simp only [List.length_cons, Sp.size_toList]; omega
theorem read_ok {s : ByteArray} {l : List (Int × ByteArray)} (h40 : s.size ≤ 40) (h : optP (s.size + 1) s [] = some l) : opts10e l = 0 ∧ optIn l ∧ ((opts10 l).size : Int) ≤ (s.size + 3) / 4 * 4 ∧ optP ((opts10 l).size + 1) (opts10 l) [] = some l := by
  obtain ⟨m, e, hm, hl⟩ := optP_ok _ _ _ _ (Nat.lt_succ_self _) h
  rw [List.nil_append] at e
  subst e
  have hb : optsBad l = false := by
    cases hb : optsBad l with
    | false => rfl
    | true => obtain ⟨x, hx, hn⟩ := (optsBad_iff l).1 hb; exact absurd (hm x hx).1 hn
  have he : opts10e l = 0 := by unfold opts10e; rw [hb, if_neg (by simp), if_neg (by omega)]
  refine ⟨he, ⟨by have := optsL_ge l; omega, fun x hx => (hm x hx).2.1, fun x hx => by have := (hm x hx).2.2; omega, by omega⟩, ?_, opts_read he fun x hx => (hm x hx).2.1⟩
  rw [opts_size he]; omega
end G2
end Go.Proofs.Ytnmeeafnobfobaa.VM
