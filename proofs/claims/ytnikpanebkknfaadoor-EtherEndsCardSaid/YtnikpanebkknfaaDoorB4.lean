/- The library's contracts, in the evaluator's form. -/
import Derived.Test.YtnikpanebkknfaaDoorBase
import Derived.Test.YtnikpanebkknfaaDoorSh4
import Derived.Lib.LaidTab
namespace Go.Proofs.YtnikpanebkknfaaDoor.VM
open Go.RowKit
set_option linter.unusedVariables false
variable {G : Ground}
/-- What the program's first blocks hold. -/
structure Tabs (G : Ground) : Prop where
  n : 4 ≤ G.n
  itoa : Lib.TabIs Tryd.prog G.w0 "internal/strconv.uint64pow10" .u64 Lib.pow10Tab
  maxlen : ∃ m, G.w0.cell? ⟨0, 0, none⟩ = some (.int .i64 m)
  esyn : ∃ ev, G.w0.cell? ⟨1, 0, none⟩ = some ev ∧ (ev = .nilIface ∨ ∃ te pe, ev = .iface te pe)
  eran : ∃ ev, G.w0.cell? ⟨2, 0, none⟩ = some ev ∧ (ev = .nilIface ∨ ∃ te pe, ev = .iface te pe)
theorem Low.cell {ρ : PMap} {M : List Row} {w : World} (hL : Low G ρ M w) {k o : Nat} (hk : k < G.n) : w.cell? ⟨k, o, none⟩ = G.w0.cell? ⟨k, o, none⟩ := by
  simp only [World.cell?, hL.same k hk]
theorem Low.tab {ρ : PMap} {M : List Row} {w : World} {name : String} {g : Nat} {k : IntKind} {zs : List Int} (hL : Low G ρ M w) (hg : Tryd.prog.globalNamed name = some g) (hk : g < G.n) (h : Lib.TabIs Tryd.prog G.w0 name k zs) : Lib.TabIs Tryd.prog w name k zs := by
  unfold Lib.TabIs World.var? at h ⊢
  simp only [hg, Option.bind_some] at h ⊢
  rw [hL.same g hk]; exact h
theorem ent_itoa : Ent Tryd.prog 51 := ⟨_, Tryd.func51, by kernel_rfl, by kernel_rfl⟩
theorem ent_join : Ent Tryd.prog 52 := ⟨_, Tryd.func52, by kernel_rfl, by kernel_rfl⟩
theorem ent_split : Ent Tryd.prog 48 := ⟨_, Tryd.func48, by kernel_rfl, by kernel_rfl⟩
theorem ent_parseu : Ent Tryd.prog 49 := ⟨_, Tryd.func49, by kernel_rfl, by kernel_rfl⟩
theorem ent_cmp : Ent Tryd.prog 60 := ⟨_, Tryd.func60, by kernel_rfl, by kernel_rfl⟩
/-- A number's text. -/
def itoaB (n : Int) : ByteArray := ⟨(Lib.itoa n).toArray⟩
theorem below_grow (w : World) (q : Nat) (os : Array Obj) : Below w.heap.size w (Sort.grow (w.drewN q) os) where
  os := rfl
  tape := rfl
  output := rfl
  size := by show _ ≤ (w.heap ++ os).size; simp
  block := fun k hk => by show (w.heap ++ os)[k]? = _; rw [Array.getElem?_append_left hk]
theorem itoa_det (hG : Tabs G) (n : Int) (h : 0 ≤ n ∧ n ≤ 9223372036854775807) : Det G Tryd.prog 51 [.o (.int .i64 n)] [] (vS (itoaB n)) [] :=
  det_of_calls ent_itoa (fun ρ => rfl) fun ρ w vs hR hL hv => by
    obtain rfl := (pl_iff (l := [.o (.int .i64 n)]) rfl).1 hv
    refine (Tryd.strconv_Itoa n (by omega) h.2 w (hL.tab (g := 3) (by kernel_rfl) (by have := hG.n; omega) hG.itoa)).mono ?_
    rintro e w' ⟨rfl, k, os, rfl⟩
    exact ⟨rfl, below_grow _ _ _⟩
theorem cmp_det (a b : ByteArray) : Det G Tryd.prog 60 [.o (.str a), .o (.str b)] [] (vI .i64 (Lib.compareBytes a.data.toList b.data.toList)) [] :=
  det_of_calls ent_cmp (fun ρ => rfl) fun ρ w vs hR hL hv => by
    obtain rfl := (pl_iff (l := [.o (.str a), .o (.str b)]) rfl).1 hv
    refine (Tryd.strings_Compare a b w).mono ?_
    rintro e w' ⟨rfl, rfl⟩
    exact ⟨rfl, Below.refl _ _⟩
/-- What a text of up to eight bits is read as, whatever it is. -/
def pu8 (s : ByteArray) : Nat := match Lib.parseUintB 8 s.data.toList with
  | .ok u => u
  | .range => 255
  | _ => 0
theorem parse_det (hG : Tabs G) (s : ByteArray) (hs : s.size ≤ 281474976710656) : Det G Tryd.prog 49 [.o (.str s), .o (.int .i64 10), .o (.int .i64 8)] [] (.t [.o (.int .u64 (pu8 s)), .o .any]) [] := by
  have key : ∀ w, ∀ ρ M, Low G ρ M w → Calls Tryd.prog 49 #[.string s, .int .i64 10, .int .i64 8] w fun e w' => ∃ u, e = .returned (.tuple #[.int .u64 (pu8 s), u]) ∧ u.oneCell' = true ∧ Below w.heap.size w w' := fun w ρ M hL => by
    cases hp : Lib.parseUintB 8 s.data.toList with
    | ok u =>
      have e : pu8 s = u := by unfold pu8; rw [hp]
      rw [e]
      refine (Tryd.strconv_ParseUint_10_at8_ok s (by omega) u hp w).mono ?_
      rintro e w' ⟨rfl, hw⟩
      refine ⟨_, rfl, rfl, ?_⟩
      rcases hw with rfl | rfl
      · exact Below.refl _ _
      · exact Lib.bytesWorld_below _ _ _
    | range =>
      have e : pu8 s = 255 := by unfold pu8; rw [hp]
      rw [e]
      obtain ⟨ev, h1, h2⟩ := hG.eran
      refine (Tryd.strconv_ParseUint_10_at8_range s hs hp ev w (by rw [hL.cell (by have := hG.n; omega)]; exact h1) h2).mono ?_
      rintro e w' ⟨N, rfl, _, _, hb⟩
      exact ⟨_, rfl, rfl, hb⟩
    | _ =>
      have e : pu8 s = 0 := by unfold pu8; rw [hp]
      rw [e]
      obtain ⟨ev, h1, h2⟩ := hG.esyn
      refine (Any.strconv_ParseUint_10_at8_syntax Tryd.laysPu14 s hs hp ev w (by show w.cell? ⟨1, 0, none⟩ = _; rw [hL.cell (by have := hG.n; omega)]; exact h1) h2).mono ?_
      rintro e w' ⟨N, rfl, _, _, hb⟩
      exact ⟨_, rfl, rfl, hb⟩
  refine ⟨ent_parseu, fun ρ w vs hR hL hv => ?_⟩
  obtain rfl := (pl_iff (l := [.o (.str s), .o (.int .i64 10), .o (.int .i64 8)]) rfl).1 hv
  refine (key w ρ [] hL).mono ?_
  rintro e w' ⟨u, rfl, hu, hb⟩
  exact ⟨_, _, _, ρ, rfl, ⟨rfl, rfl⟩, ⟨_, rfl, _, _, rfl, rfl, u, _, rfl, hu, rfl⟩, hR.below hb, .of_below hR hb, fun _ _ => rfl⟩
def strsSV : List ByteArray → List SV
  | [] => []
  | s :: l => .str s :: strsSV l
theorem lenS_strs : ∀ l : List ByteArray, lenS (strsSV l) = l.length
  | [] => rfl
  | _ :: l => by simp [strsSV, lenS, lenS_strs l]
theorem nth_strs : ∀ (l : List ByteArray) (i : Nat), nth (strsSV l) i = (l[i]?).map SV.str
  | [], i => by cases i <;> rfl
  | x :: l, 0 => rfl
  | x :: l, i + 1 => by simp only [strsSV, nth, nth_strs l i]; simp
def joinB (xs : List ByteArray) (sep : ByteArray) : ByteArray := ⟨(Lib.join (xs.map (·.data.toList)) sep.data.toList).toArray⟩
theorem join_det (xs : List ByteArray) (sep : ByteArray) (a b : Bool) (c : Cap) (n : Nat) (hn : n = xs.length) (h1 : 0 < n ∧ n ≤ 1000000) (h2 : (joinB xs sep).size ≤ 1000000000) :
    Det G Tryd.prog 52 [.o (.slc 0 0 n c), .o (.str sep)] [.row a b (strsSV xs)] (vS (joinB xs sep)) [.row a b (strsSV xs)] := by
  subst hn
  refine det_of_calls ent_join (fun ρ => rfl) fun ρ w vs hR hL hv => ?_
  obtain ⟨v1, r1, rfl, ⟨p, ad, cap, hp, rfl, had, hlc, _⟩, v2, r2, rfl, rfl, rfl⟩ := hv
  have had : ad = ⟨p.blk, p.base + 0, none⟩ := had.resolve_left (by omega)
  subst had
  obtain ⟨q, hq, hr⟩ := hR.rows 0 rfl
  rw [hp] at hq; cases hq
  obtain ⟨g1, g2, _, _⟩ := hr
  refine (Tryd.strings_Join p.blk (p.base + 0) cap xs sep w (fun j x hx => ?_) g1 (by omega) hlc ?_).mono ?_
  · obtain ⟨v, hv, hc⟩ := g2 j (.str x) (by rw [nth_strs, hx]; rfl)
    obtain rfl : v = .string x := hv
    exact hc
  · have : (joinB xs sep).size = (Lib.join (xs.map (·.data.toList)) sep.data.toList).length := by show (List.toArray _).size = _; simp
    omega
  · rintro e w' ⟨rfl, hb⟩
    exact ⟨rfl, hb⟩
theorem split_det (hG : Tabs G) (s sep : ByteArray) (h1 : 1 ≤ sep.size) (hs : s.size < 4294967281) :
    Det G Tryd.prog 48 [.o (.str s), .o (.str sep)] [] (.p (.o (.slc 0 0 (Lib.countB s sep + 1) (.is (Lib.countB s sep + 1))))) [.row true true (strsSV (Lib.splitB sep 0 (Lib.countB s sep) s))] := by
  refine ⟨ent_split, fun ρ w vs hR hL hv => ?_⟩
  obtain rfl := (pl_iff (l := [.o (.str s), .o (.str sep)]) rfl).1 hv
  obtain ⟨m, hm⟩ := hG.maxlen
  refine (Tryd.strings_Split s sep m w hs (by rw [hL.cell (by have := hG.n; omega)]; exact hm) h1).mono ?_
  rintro e w' ⟨rfl, rfl⟩
  have hnone : ∀ k, ρ k = none := fun k => by
    cases h : ρ k with
    | none => rfl
    | some p => have := hR.dom k p h; simp [lenR] at this
  have hH : Hist G ρ [] w [] ρ (appR [] (deads 1)) w := (⟨hR, hL, trivial, Ev.refl _ _ _, fun _ _ => rfl, Nat.le_refl _⟩ : Hist G ρ [] w [] ρ [] w).more 1
  obtain ⟨k1, k2⟩ := new_row (nid := 0) (sym := true) (l := strsSV (Lib.splitB sep 0 (Lib.countB s sep) s)) (c := ((Lib.splitB sep 0 (Lib.countB s sep) s).map Value.string).toArray) (T := 9) (lo := 0) (hi := 0) (w' := w.alloc (.cells ((Lib.splitB sep 0 (Lib.countB s sep) s).map Value.string).toArray 9)) hH.rep (hnone 0) (Nat.le_of_ble_eq_true rfl) rfl rfl rfl rfl (.inl rfl)
    (by rw [lenS_strs]; simp) (fun i x hi => by
      rw [nth_strs, Option.map_eq_some_iff] at hi
      obtain ⟨y, hy, rfl⟩ := hi
      exact ⟨_, rfl, by simp [hy]⟩) (fun _ i x hi => by
      rw [nth_strs, Option.map_eq_some_iff] at hi
      obtain ⟨y, hy, rfl⟩ := hi; rfl) rfl
  exact ⟨_, _, _, _, rfl, ⟨rfl, rfl⟩, ⟨_, _, _, upd_same _ _ _, rfl, .inr rfl, Nat.le_refl _, rfl⟩, k1, hH.ev.trans k2, fun b hb => absurd hb (Nat.not_lt_zero b)⟩
end Go.Proofs.YtnikpanebkknfaaDoor.VM
