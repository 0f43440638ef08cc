/- ip4.Opts's contract, in the evaluator's form; a base of runs. -/
import Derived.Test.YtnmeeafnobfobaaVBx
import Derived.Test.YtnmeeafnobfobaaOpt
namespace Go.Proofs.Ytnmeeafnobfobaa.VM
open Go.RowKit
set_option linter.unusedVariables false
def optSV : List (Int × ByteArray) → List SV
  | [] => []
  | (k, d) :: l => .int .u8 k :: .str d :: optSV l
theorem nth_optSV : ∀ (l : List (Int × ByteArray)) (i : Nat) (x : Int × ByteArray), l[i]? = some x → nth (optSV l) (i * 2) = some (.int .u8 x.1) ∧ nth (optSV l) (i * 2 + 1) = some (.str x.2)
  | [], i, x, h => by simp at h
  | (k, d) :: l, 0, x, h => by simp at h; subst h; exact ⟨rfl, rfl⟩
  | (k, d) :: l, i + 1, x, h => by
    simp only [List.getElem?_cons_succ] at h
    rw [show (i + 1) * 2 = i * 2 + 1 + 1 by omega]
    exact nth_optSV l i x h
def optsBad (l : List (Int × ByteArray)) : Bool := l.any fun x => decide (x.1 = 0) || (decide (x.1 = 1) && decide (¬ x.2.size = 0))
def opts10e (l : List (Int × ByteArray)) : Int := if optsBad l = true then 102 else if 40 < (optsL l).length then 4 else 0
def opts10 (l : List (Int × ByteArray)) : ByteArray := if opts10e l = 0 then ⟨(optsL l).toArray⟩ ++ ⟨(List.replicate ((4 - (optsL l).length % 4) % 4) 0).toArray⟩ else ⟨#[]⟩
theorem optsBad_iff (l : List (Int × ByteArray)) : optsBad l = true ↔ ∃ x ∈ l, ¬ optOk x := by
  unfold optsBad optOk
  rw [List.any_eq_true]
  constructor
  · rintro ⟨x, h1, h2⟩
    refine ⟨x, h1, ?_⟩
    simp only [Bool.or_eq_true, Bool.and_eq_true, decide_eq_true_eq] at h2
    rintro ⟨a, b⟩
    rcases h2 with h2 | h2
    · exact a h2
    · exact b h2
  · rintro ⟨x, h1, h2⟩
    refine ⟨x, h1, ?_⟩
    simp only [Bool.or_eq_true, Bool.and_eq_true, decide_eq_true_eq]
    rcases Classical.em (x.1 = 0) with h | h
    · exact .inl h
    · exact .inr (Classical.byContradiction fun h3 => h2 ⟨h, h3⟩)
theorem opts_fin (l : List (Int × ByteArray)) (s : ByteArray) (e : Int) (h : ((∃ x ∈ l, ¬ optOk x) ∧ s = ⟨#[]⟩ ∧ e = 102) ∨ ((∀ x ∈ l, optOk x) ∧ 40 < (optsL l).length ∧ s = ⟨#[]⟩ ∧ e = 4) ∨ ((∀ x ∈ l, optOk x) ∧ ¬ 40 < (optsL l).length ∧ s = ⟨(optsL l).toArray⟩ ++ ⟨(List.replicate ((4 - (optsL l).length % 4) % 4) 0).toArray⟩ ∧ e = 0)) : s = opts10 l ∧ e = opts10e l := by
  have nb : (∀ x ∈ l, optOk x) → ¬ optsBad l = true := fun h1 h2 => by
    obtain ⟨x, a, b⟩ := (optsBad_iff l).1 h2
    exact b (h1 x a)
  rcases h with ⟨h1, rfl, rfl⟩ | ⟨h1, h2, rfl, rfl⟩ | ⟨h1, h2, rfl, rfl⟩
  · have e : opts10e l = 102 := if_pos ((optsBad_iff l).2 h1)
    exact ⟨by unfold opts10; rw [e]; rfl, e.symm⟩
  · have e : opts10e l = 4 := by unfold opts10e; rw [if_neg (nb h1), if_pos h2]
    exact ⟨by unfold opts10; rw [e]; rfl, e.symm⟩
  · have e : opts10e l = 0 := by unfold opts10e; rw [if_neg (nb h1), if_neg h2]
    exact ⟨by unfold opts10; rw [e]; rfl, e.symm⟩
theorem ent_ipOpts : Ent Try.prog 37 := ⟨_, Try.func37, by kernel_rfl, by kernel_rfl⟩
/-- The bounds under which options are written. -/
def optIn (l : List (Int × ByteArray)) : Prop := l.length ≤ 1000000 ∧ (∀ x ∈ l, 0 ≤ x.1 ∧ x.1 ≤ 255) ∧ (∀ x ∈ l, x.2.size ≤ 1000000) ∧ (optsL l).length ≤ 1000000
theorem opts_det (rw_ sym : Bool) (xs : List (Int × ByteArray)) (n : Nat) (cp : Cap) (l : List SV) (hn : n = xs.length) (hl : l = optSV xs) (hin : optIn xs) :
    Det Try.prog 37 [.o (.slc 0 0 n cp)] [.row rw_ sym l] (.t [.o (.str (opts10 xs)), .o (.int .i64 (opts10e xs))]) [.row rw_ sym l] := by
  subst hn hl
  refine det_of_calls (u := .tuple #[.string (opts10 xs), .int .i64 (opts10e xs)]) ent_ipOpts (fun ρ => ⟨_, rfl, _, _, rfl, rfl, _, _, rfl, rfl, rfl⟩) fun ρ w vs hR hv => ?_
  obtain ⟨v, r, rfl, h1, rfl⟩ := hv
  obtain ⟨p, a, cap, hp, rfl, ha, hcl, hc⟩ := h1
  obtain ⟨q, hq, hr⟩ := hR.rows 0 rfl
  rw [hp] at hq; cases hq
  refine (opts_any (some a) cap xs w ?_ hin.1 hin.2.1 hin.2.2.1 hin.2.2.2).mono ?_
  · by_cases h0 : xs = []
    · exact .inl h0
    · have hpos : 0 < xs.length := List.length_pos_iff.2 h0
      have ha' : a = ⟨p.blk, p.base + 0, none⟩ := ha.resolve_left (by omega)
      subst ha'
      refine .inr ⟨p.blk, p.base + 0, rfl, hr.1, fun i x hx => ?_⟩
      obtain ⟨g1, g2⟩ := nth_optSV xs i x hx
      obtain ⟨v1, e1, c1⟩ := hr.2.1 (i * 2) _ g1
      obtain ⟨v2, e2, c2⟩ := hr.2.1 (i * 2 + 1) _ g2
      exact ⟨c1.trans (congrArg some e1), c2.trans (congrArg some e2)⟩
  · rintro e w' ⟨⟨s, e0, rfl, h⟩, hb⟩
    obtain ⟨rfl, rfl⟩ := opts_fin xs s e0 h
    exact ⟨rfl, hb⟩
theorem opts_nil : Det Try.prog 37 [.o .nils] [] (.t [.o (.str ⟨#[]⟩), .o (.int .i64 0)]) [] := by
  refine det_of_calls (u := .tuple #[.string ⟨#[]⟩, .int .i64 0]) ent_ipOpts (fun ρ => ⟨_, rfl, _, _, rfl, rfl, _, _, rfl, rfl, rfl⟩) fun ρ w vs hR hv => ?_
  obtain ⟨v, r, rfl, h1, rfl⟩ := hv
  cases h1
  refine (opts_any none 0 [] w (.inl rfl) (by decide) (by simp) (by simp) (by decide)).mono ?_
  rintro e w' ⟨⟨s, e0, rfl, h⟩, hb⟩
  obtain ⟨rfl, rfl⟩ := opts_fin [] s e0 h
  exact ⟨rfl, hb⟩
def optsOf : List SV → Option (List (Int × ByteArray))
  | [] => some []
  | .int .u8 k :: .str d :: l => match optsOf l with
    | some r => some ((k, d) :: r)
    | none => none
  | _ => none
theorem optsOf_eq (l : List SV) : ∀ xs, optsOf l = some xs → l = optSV xs := by
  induction l using optsOf.induct with
  | case1 => intro xs h; cases h; rfl
  | case2 k d l r hr ih => intro xs h; simp only [optsOf, hr] at h; cases h; simp only [optSV]; rw [← ih r hr]
  | case3 k d l hr ih => intro xs h; simp only [optsOf, hr] at h; cases h
  | case4 l h1 h2 => intro xs h; simp only [optsOf] at h; cases h
instance (l : List (Int × ByteArray)) : Decidable (optIn l) := by unfold optIn; infer_instance
def baseO : CallE := fun f args M => match base2 f args M with
  | some r => some r
  | none => match args, M with
    | [.o (.slc 0 0 n cp)], [.row rw_ sym l] => match optsOf l with
      | some xs => match decide (n = xs.length) && (decide (optIn xs) && Nat.beq f 37) with
        | true => some (.t [.o (.str (opts10 xs)), .o (.int .i64 (opts10e xs))], [.row rw_ sym l])
        | false => none
      | none => none
    | _, _ => none
theorem baseO_ok : CallOk Try.prog baseO := fun f args M v M' h => by
  unfold baseO at h
  split at h
  · rename_i r hr; cases h; exact base2_ok _ _ _ _ _ hr
  · split at h
    · rename_i n cp rw_ sym l hb2
      split at h
      · rename_i xs hx
        split at h
        · rename_i hd
          simp only [Bool.and_eq_true, decide_eq_true_eq] at hd
          obtain ⟨h1, h2, h3⟩ := hd
          cases h
          rw [Nat.eq_of_beq_eq_true h3]
          exact opts_det rw_ sym xs n cp l h1 (optsOf_eq l xs hx) h2
        · cases h
      · cases h
    · cases h
end Go.Proofs.Ytnmeeafnobfobaa.VM
