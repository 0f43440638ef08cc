/- Two more of the library's contracts, in the evaluator's form. -/
import Derived.Test.YtnikpanebkknfaaDoorB4
import Derived.Test.YtnikpanebkknfaaDoorSh7
namespace Go.Proofs.YtnikpanebkknfaaDoor.VM
open Go.RowKit
set_option linter.unusedVariables false
variable {G : Ground}
theorem ent_repl : Ent Tryd.prog 63 := ⟨_, Tryd.func63, by kernel_rfl, by kernel_rfl⟩
theorem ent_rept : Ent Tryd.prog 44 := ⟨_, Tryd.func44, by kernel_rfl, by kernel_rfl⟩
/-- A text in which one text stands for another. -/
def replB (s old new : ByteArray) : ByteArray := ⟨(Lib.replaceAll s.data.toList old.data.toList new.data.toList).toArray⟩
/-- A text many times over. -/
def reptB (s : ByteArray) (n : Nat) : ByteArray := ⟨(Lib.repeatL s.data.toList n).toArray⟩
theorem repl_det (hG : Tabs G) (s old new : ByteArray) (h1 : 1 ≤ old.size) (hs : s.size < 4294967281) (hlen : s.size + Lib.countB s old * new.size ≤ 140737488355328) :
    Det G Tryd.prog 63 [.o (.str s), .o (.str old), .o (.str new)] [] (vS (replB s old new)) [] :=
  det_of_calls ent_repl (fun ρ => rfl) fun ρ w vs hR hL hv => by
    obtain rfl := (pl_iff (l := [.o (.str s), .o (.str old), .o (.str new)]) rfl).1 hv
    obtain ⟨m, hm⟩ := hG.maxlen
    refine (Tryd.strings_ReplaceAll s old new m w hs (by rw [hL.cell (by have := hG.n; omega)]; exact hm) h1 hlen).mono ?_
    rintro e w' ⟨rfl, hb⟩
    exact ⟨rfl, hb⟩
theorem rept_det (s : ByteArray) (n : Nat) (h2 : 2 ≤ n) (hn : n ≤ 9223372036854775807) (h0 : 0 < s.size) (hlen : s.size * n ≤ 140737488355328) :
    Det G Tryd.prog 44 [.o (.str s), .o (.int .i64 n)] [] (vS (reptB s n)) [] :=
  det_of_calls ent_rept (fun ρ => rfl) fun ρ w vs hR hL hv => by
    obtain rfl := (pl_iff (l := [.o (.str s), .o (.int .i64 n)]) rfl).1 hv
    refine (Tryd.strings_Repeat_main s n w h2 hn hlen h0).mono ?_
    rintro e w' ⟨rfl, hb⟩
    exact ⟨rfl, hb⟩
theorem rept_det0 (s : ByteArray) :
    Det G Tryd.prog 44 [.o (.str s), .o (.int .i64 0)] [] (vS ⟨#[]⟩) [] :=
  det_of_calls ent_rept (fun ρ => rfl) fun ρ w vs hR hL hv => by
    obtain rfl := (pl_iff (l := [.o (.str s), .o (.int .i64 0)]) rfl).1 hv
    refine (Tryd.strings_Repeat_zero s w).mono ?_
    rintro e w' ⟨rfl, rfl⟩
    exact ⟨rfl, Below.refl _ _⟩
theorem ent_toerr : Ent Tryd.prog 76 := ⟨_, Tryd.func76, by kernel_rfl, by kernel_rfl⟩
theorem toerr_syn (hG : Tabs G) (fn s : ByteArray) (hs : s.size ≤ 281474976710656) :
    Det G Tryd.prog 76 [.o (.str fn), .o (.str s), .o (.int .i64 16), .o (.int .i64 48), .o (.ifi 125 .i64 2)] [] (vO .any) [] := by
  refine ⟨ent_toerr, fun ρ w vs hR hL hv => ?_⟩
  obtain rfl := (pl_iff (l := [.o (.str fn), .o (.str s), .o (.int .i64 16), .o (.int .i64 48), .o (.ifi 125 .i64 2)]) rfl).1 hv
  obtain ⟨ev, h, hev⟩ := hG.esyn
  refine (AnyPu.strconv_toError_syntax { Tryd.laysPu14 with } fn s 16 48 ev w hs (by rw [show Tryd.laysPu14_ren.g 0 = 1 from rfl, hL.cell (by have := hG.n; omega)]; exact h) hev).mono ?_
  rintro e w' ⟨N, rfl, _, _, hb⟩
  exact ⟨_, _, _, ρ, rfl, ⟨rfl, rfl⟩, rfl, hR.below hb, .of_below hR hb, fun _ _ => rfl⟩
theorem toerr_ran (hG : Tabs G) (fn s : ByteArray) (hs : s.size ≤ 281474976710656) :
    Det G Tryd.prog 76 [.o (.str fn), .o (.str s), .o (.int .i64 16), .o (.int .i64 48), .o (.ifi 125 .i64 1)] [] (vO .any) [] := by
  refine ⟨ent_toerr, fun ρ w vs hR hL hv => ?_⟩
  obtain rfl := (pl_iff (l := [.o (.str fn), .o (.str s), .o (.int .i64 16), .o (.int .i64 48), .o (.ifi 125 .i64 1)]) rfl).1 hv
  obtain ⟨ev, h, hev⟩ := hG.eran
  refine (AnyPu.strconv_toError_range { Tryd.laysPu14 with } fn s 16 48 ev w hs (by rw [show Tryd.laysPu14_ren.g 1 = 2 from rfl, hL.cell (by have := hG.n; omega)]; exact h) hev).mono ?_
  rintro e w' ⟨N, rfl, _, _, hb⟩
  exact ⟨_, _, _, ρ, rfl, ⟨rfl, rfl⟩, rfl, hR.below hb, .of_below hR hb, fun _ _ => rfl⟩
end Go.Proofs.YtnikpanebkknfaaDoor.VM
