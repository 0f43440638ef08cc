/- A law's arguments, read: structs of numbers, truths and texts. -/
import Derived.Test.YtmdfkggflainbaaVmA
import Derived.OpenShut
import Derived.Handy
namespace Go.Proofs.Ytmdfkggflainbaa.VM
open Go.RowKit Go.ChangeShapes Go.WideShapes
set_option linter.unusedVariables false
set_option linter.unusedSimpArgs false
/-! a law's arguments -/
inductive FK where
  | int (k : IntKind)
  | bool
  | str
def inK : IntKind → Int → Prop
  | .i8, n => -128 ≤ n ∧ n ≤ 127
  | .i16, n => -32768 ≤ n ∧ n ≤ 32767
  | .i32, n => -2147483648 ≤ n ∧ n ≤ 2147483647
  | .i64, n => -9223372036854775808 ≤ n ∧ n ≤ 9223372036854775807
  | .u8, n => 0 ≤ n ∧ n ≤ 255
  | .u16, n => 0 ≤ n ∧ n ≤ 65535
  | .u32, n => 0 ≤ n ∧ n ≤ 4294967295
  | .u64, n => 0 ≤ n ∧ n ≤ 18446744073709551615
theorem inK_of_wf {k : IntKind} {n : Int} (h : (Lit.int k n).wf = true) : inK k n := by
  cases k <;> (simp [Lit.wf, IntKind.min, IntKind.max, IntKind.signed, IntKind.bits] at h; simp only [inK]; omega)
def okL : List FK → List SV → Prop
  | [], l => l = []
  | .int k :: ks, l => ∃ n r, l = .int k n :: r ∧ inK k n ∧ okL ks r
  | .bool :: ks, l => ∃ b r, l = .bool b :: r ∧ okL ks r
  | .str :: ks, l => ∃ s r, l = .str s :: r ∧ s.size ≤ maxLen ∧ okL ks r
theorem okL_append : ∀ {a b : List FK} {l m : List SV}, okL a l → okL b m → okL (a ++ b) (l ++ m)
  | [], b, l, m, h, k => by simp only [okL] at h; subst h; exact k
  | .int _ :: a, b, l, m, h, k => by obtain ⟨n, r, rfl, h1, h2⟩ := h; exact ⟨n, _, rfl, h1, okL_append h2 k⟩
  | .bool :: a, b, l, m, h, k => by obtain ⟨n, r, rfl, h2⟩ := h; exact ⟨n, _, rfl, okL_append h2 k⟩
  | .str :: a, b, l, m, h, k => by obtain ⟨n, r, rfl, h1, h2⟩ := h; exact ⟨n, _, rfl, h1, okL_append h2 k⟩
theorem okL_flat : ∀ {a : List FK} {l : List SV}, okL a l → ∀ s ∈ l, s.flat = true
  | [], l, h, s, hs => by simp only [okL] at h; subst h; cases hs
  | .int _ :: a, l, h, s, hs => by
    obtain ⟨n, r, rfl, h1, h2⟩ := h
    cases hs with
    | head => rfl
    | tail _ hs => exact okL_flat h2 s hs
  | .bool :: a, l, h, s, hs => by
    obtain ⟨n, r, rfl, h2⟩ := h
    cases hs with
    | head => rfl
    | tail _ hs => exact okL_flat h2 s hs
  | .str :: a, l, h, s, hs => by
    obtain ⟨n, r, rfl, h1, h2⟩ := h
    cases hs with
    | head => rfl
    | tail _ hs => exact okL_flat h2 s hs
theorem isLs_append {ρ : PMap} : ∀ {l m : List SV} {u v : List Value}, isL ρ l u → isL ρ m v → isL ρ (l ++ m) (u ++ v)
  | [], m, u, v, h, k => by simp only [isL] at h; subst h; exact k
  | s :: l, m, u, v, h, k => by obtain ⟨x, r, rfl, h1, h2⟩ := h; exact ⟨x, _, rfl, h1, isLs_append h2 k⟩
def flatFs (P : Program) (g : TypeId → Option (List FK)) : List Field → Nat → Nat → Option (List FK)
  | [], i, size => if i = size then some [] else none
  | f :: fs, i, size => if f.offset = i then match g f.type, flatFs P g fs (i + P.cellsOf f.type) size with
    | some a, some b => some (a ++ b)
    | _, _ => none
    else none
/-- The kinds of a type's cells, where they are numbers, truths and texts alone. -/
def flatB (P : Program) : Nat → TypeId → Option (List FK)
  | 0, _ => none
  | n + 1, t => match P.underlying t with
    | some (.int k) => some [.int k]
    | some .bool => some [.bool]
    | some .string => some [.str]
    | some (.struct fs) => flatFs P (flatB P n) fs.toList 0 (P.cellsOf t)
    | _ => none
section
variable {H : Type} {enc : TypeId × Value → H} {P : Program} {w : World} {base : Nat} {spare : Nat → Bool} {held : Bool}
theorem fields_flat {fuel : Nat} {g : TypeId → Option (List FK)} {cs : List Value} (hg : ∀ t ks, g t = some ks → ∀ cs x, DataW.trod enc P w base spare held fuel t cs = some x → ∃ l, okL ks l ∧ ∀ ρ, isL ρ l cs) :
    ∀ (fs : List Field) (i : Nat) (ks : List FK), flatFs P g fs i cs.length = some ks → (∀ f ∈ fs, ∃ x, DataW.trod enc P w base spare held fuel f.type ((cs.drop f.offset).take (P.cellsOf f.type)) = some x) →
    ∃ l, okL ks l ∧ ∀ ρ, isL ρ l (cs.drop i)
  | [], i, ks, h, _ => by
    simp only [flatFs] at h
    split at h
    · rename_i e; cases h; subst e; exact ⟨[], rfl, fun ρ => by simp [isL]⟩
    · cases h
  | f :: fs, i, ks, h, hf => by
    simp only [flatFs] at h
    split at h
    · rename_i e; subst e
      split at h
      · rename_i a b h1 h2
        cases h
        obtain ⟨x, hx⟩ := hf f (.head _)
        obtain ⟨l, k1, k2⟩ := hg _ _ h1 _ _ hx
        obtain ⟨m, k3, k4⟩ := fields_flat hg fs _ b h2 (fun f' hf' => hf f' (.tail _ hf'))
        refine ⟨l ++ m, okL_append k1 k3, fun ρ => ?_⟩
        have := isLs_append (k2 ρ) (k4 ρ)
        rwa [← List.drop_drop, List.take_append_drop] at this
      · cases h
    · cases h
theorem trod_flat : ∀ (n : Nat) (t : TypeId) (ks : List FK), flatB P n t = some ks → ∀ (fuel : Nat) (cs : List Value) (x : DataW H × List MemPlace), DataW.trod enc P w base spare held fuel t cs = some x → ∃ l, okL ks l ∧ ∀ ρ, isL ρ l cs
  | 0, t, ks, h => by cases h
  | n + 1, t, ks, h => by
    intro fuel cs x hx
    simp only [flatB] at h
    split at h
    · rename_i k hu
      cases h
      obtain ⟨m, rfl, _, hw⟩ := DataW.trod_int hu hx
      exact ⟨[.int k m], ⟨m, [], rfl, inK_of_wf hw, rfl⟩, fun ρ => ⟨_, _, rfl, rfl, rfl⟩⟩
    · rename_i hu
      cases h
      obtain ⟨b, rfl, _⟩ := DataW.trod_bool hu hx
      exact ⟨[.bool b], ⟨b, [], rfl, rfl⟩, fun ρ => ⟨_, _, rfl, rfl, rfl⟩⟩
    · rename_i hu
      cases h
      obtain ⟨s, rfl, _, hs⟩ := DataW.trod_string hu hx
      exact ⟨[.str s], ⟨s, [], rfl, hs, rfl⟩, fun ρ => ⟨_, _, rfl, rfl, rfl⟩⟩
    · rename_i fs hu
      obtain ⟨xs, m, rfl, _, hl, hlen, hf⟩ := DataW.trod_struct hu hx
      rw [← hl] at h
      exact fields_flat (fun t ks ht cs x hx => trod_flat n t ks ht m cs x hx) fs.toList 0 ks h (fun f hf' => by
        obtain ⟨i, hi, rfl⟩ := List.mem_iff_getElem.1 hf'
        have hi' : i < fs.size := by simpa using hi
        have := hf i fs[i] (by simp [hi'])
        rw [List.getElem?_eq_getElem (by omega)] at this
        exact ⟨_, by simpa using this⟩)
    · cases h
/-- A struct of flat cells, by value. -/
theorem open_flat (n : Nat) {r : Reach} {b0 : Nat} {t : TypeId} {fs : Array Field} {v : Value} {d : DataW H} {p : List MemPlace} {ks : List FK} (hs : P.underlying t = some (.struct fs)) (hk : flatB P n t = some ks)
    (hv : Value.okWide P w r b0 t v) (h : DataW.Trod enc P w base spare held t v d p) : ∃ l, okL ks l ∧ ∃ cs, v = .agg cs ∧ ∀ ρ, isL ρ l cs.toList := by
  obtain ⟨cs, rfl, _⟩ := okWide_struct hs hv
  obtain ⟨fuel, hf⟩ := h
  obtain ⟨l, h1, h2⟩ := trod_flat n t ks hk fuel _ _ hf
  exact ⟨l, h1, cs, rfl, by simpa [Value.cells] using h2⟩
end
theorem isL_fun {ρ : PMap} : ∀ {l : List SV} {u v : List Value}, (∀ s ∈ l, s.flat = true) → isL ρ l u → isL ρ l v → u = v
  | [], u, v, _, h, k => by simp only [isL] at h k; rw [h, k]
  | s :: l, u, v, hl, h, k => by
    obtain ⟨x, r, rfl, h1, h2⟩ := h
    obtain ⟨y, q, rfl, k1, k2⟩ := k
    rw [isL_fun (fun s hs => hl s (.tail _ hs)) h2 k2]
    have hx : x = y := by
      have := hl s (.head _)
      cases s <;> first | (simp only [SV.Is] at h1 k1; rw [h1, k1]) | cases this
    rw [hx]

end Go.Proofs.Ytmdfkggflainbaa.VM
