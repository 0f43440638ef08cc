/-
  No cell of these rows narrows 'for every input' (looked for: loops, veiled, ifaces, maps, wideKeys, modest, calm, conditions, laid).
  DERIVED. THE GIVEN ROWS OF THIS SEAT. 11 by the template 'for every input the law returns true; each argument reads behind the call as it read before'; 0 by the template 'total and deterministic' (their statements: YtnmeeafnobfobaaTotals.lean).
  GIVEN WITH THE SEED: the statements are not yours to turn. If you find one false, say at which input.
  Laid BY PROGRAM, IN A SANDBOX (cutbox-rows.mjs): the forced cells as the released guide's own fill.sh prints them over the translation 66b1d00de4bb0bf7… (all of the seat's roots in one cut). By AI agents, Wed Nov 11 2026. No macro, syntax, notation, axiom, sorry.
-/
import Derived.Test.YtnmeeafnobfobaaChecked
import GoSem.Claim
import GoSem.ClaimJoined
import GoSem.ClaimMapViews
import Derived.JoinedTies
import Derived.KernelRfl
namespace Go.Proofs.Ytnmeeafnobfobaa
/- THE CELL 'sum', in the pinned program and in every row, IS THE sha256 OF THE DUMP (.gsa) THAT YtnmeeafnobfobaaProg.lean LOADS. Nothing in Lean hashes anything: it is a label: what it is worth is what the hold of that sum in a sandbox is worth. -/
noncomputable def Try.pinned : Pinned := { name := "ytnmeeafnobfobaa", sum := "66b1d00de4bb0bf7c53385edc8c7ea67f63b093a645b44680f13fa5a5dce735d", checked := Try.checked }
namespace Rows
def none {H : Type} : Left H := { results := [], args := [] }

/-- 'stevedorelaw14.IcmpTells': WHATEVER THE INPUT: true; the input reads as it did. -/
def icmpTellsSpec : ChangeSpec := { name := "icmpTells", fn := fun _ => fun
  | [d1, d2] => { results := [.lit (.bool true)], args := [d1, d2] }
  | _ => none }
def icmpTellsRow : OpenClaim := { program := "ytnmeeafnobfobaa", sum := "66b1d00de4bb0bf7c53385edc8c7ea67f63b093a645b44680f13fa5a5dce735d", func := "stevedore/stevedorelaw14.IcmpTells", spec := "icmpTells", inPlace := ["internal/abi.NoEscape", "internal/bytealg.MakeNoZero"], unfollowed := true, recurses := true, apart := false }
def IcmpTellsSaid : Prop := icmpTellsRow.holds Try.pinned (OpenSpec.ofChange icmpTellsSpec)

/-- ITS FALSE NEIGHBOUR: 'it returns false'. Refute it at one input. -/
def icmpTellsWrong : ChangeSpec := { name := "icmpTells", fn := fun _ => fun
  | [d1, d2] => { results := [.lit (.bool false)], args := [d1, d2] }
  | _ => none }
def IcmpTellsWrongFalsely : Prop := icmpTellsRow.holds Try.pinned (OpenSpec.ofChange icmpTellsWrong)

/-- 'stevedorelaw14.IcmpErrors': WHATEVER THE INPUT: true; the input reads as it did. -/
def icmpErrorsSpec : ChangeSpec := { name := "icmpErrors", fn := fun _ => fun
  | [d1, d2, d3, d4, d5] => { results := [.lit (.bool true)], args := [d1, d2, d3, d4, d5] }
  | _ => none }
def icmpErrorsRow : OpenClaim := { program := "ytnmeeafnobfobaa", sum := "66b1d00de4bb0bf7c53385edc8c7ea67f63b093a645b44680f13fa5a5dce735d", func := "stevedore/stevedorelaw14.IcmpErrors", spec := "icmpErrors", inPlace := ["internal/abi.NoEscape", "internal/bytealg.MakeNoZero"], unfollowed := true, recurses := true, apart := false }
def IcmpErrorsSaid : Prop := icmpErrorsRow.holds Try.pinned (OpenSpec.ofChange icmpErrorsSpec)

/-- ITS FALSE NEIGHBOUR: 'it returns false'. Refute it at one input. -/
def icmpErrorsWrong : ChangeSpec := { name := "icmpErrors", fn := fun _ => fun
  | [d1, d2, d3, d4, d5] => { results := [.lit (.bool false)], args := [d1, d2, d3, d4, d5] }
  | _ => none }
def IcmpErrorsWrongFalsely : Prop := icmpErrorsRow.holds Try.pinned (OpenSpec.ofChange icmpErrorsWrong)

/-- 'stevedorelaw14.IcmpBack': WHATEVER THE INPUT: true; the input reads as it did. -/
def icmpBackSpec : ChangeSpec := { name := "icmpBack", fn := fun _ => fun
  | [d1, d2, d3, d4, d5] => { results := [.lit (.bool true)], args := [d1, d2, d3, d4, d5] }
  | _ => none }
def icmpBackRow : OpenClaim := { program := "ytnmeeafnobfobaa", sum := "66b1d00de4bb0bf7c53385edc8c7ea67f63b093a645b44680f13fa5a5dce735d", func := "stevedore/stevedorelaw14.IcmpBack", spec := "icmpBack", inPlace := ["internal/abi.NoEscape", "internal/bytealg.MakeNoZero"], unfollowed := true, recurses := true, apart := false }
def IcmpBackSaid : Prop := icmpBackRow.holds Try.pinned (OpenSpec.ofChange icmpBackSpec)

/-- ITS FALSE NEIGHBOUR: 'it returns false'. Refute it at one input. -/
def icmpBackWrong : ChangeSpec := { name := "icmpBack", fn := fun _ => fun
  | [d1, d2, d3, d4, d5] => { results := [.lit (.bool false)], args := [d1, d2, d3, d4, d5] }
  | _ => none }
def IcmpBackWrongFalsely : Prop := icmpBackRow.holds Try.pinned (OpenSpec.ofChange icmpBackWrong)

/-- 'stevedorelaw14.IcmpQuotes': WHATEVER THE INPUT: true; the input reads as it did. -/
def icmpQuotesSpec : ChangeSpec := { name := "icmpQuotes", fn := fun _ => fun
  | [d1, d2, d3, d4, d5] => { results := [.lit (.bool true)], args := [d1, d2, d3, d4, d5] }
  | _ => none }
def icmpQuotesRow : OpenClaim := { program := "ytnmeeafnobfobaa", sum := "66b1d00de4bb0bf7c53385edc8c7ea67f63b093a645b44680f13fa5a5dce735d", func := "stevedore/stevedorelaw14.IcmpQuotes", spec := "icmpQuotes", inPlace := ["internal/abi.NoEscape", "internal/bytealg.MakeNoZero"], unfollowed := true, recurses := true, apart := false }
def IcmpQuotesSaid : Prop := icmpQuotesRow.holds Try.pinned (OpenSpec.ofChange icmpQuotesSpec)

/-- ITS FALSE NEIGHBOUR: 'it returns false'. Refute it at one input. -/
def icmpQuotesWrong : ChangeSpec := { name := "icmpQuotes", fn := fun _ => fun
  | [d1, d2, d3, d4, d5] => { results := [.lit (.bool false)], args := [d1, d2, d3, d4, d5] }
  | _ => none }
def IcmpQuotesWrongFalsely : Prop := icmpQuotesRow.holds Try.pinned (OpenSpec.ofChange icmpQuotesWrong)

/-- 'stevedorelaw14.IcmpEcho': WHATEVER THE INPUT: true; the input reads as it did. -/
def icmpEchoSpec : ChangeSpec := { name := "icmpEcho", fn := fun _ => fun
  | [d1, d2, d3] => { results := [.lit (.bool true)], args := [d1, d2, d3] }
  | _ => none }
def icmpEchoRow : OpenClaim := { program := "ytnmeeafnobfobaa", sum := "66b1d00de4bb0bf7c53385edc8c7ea67f63b093a645b44680f13fa5a5dce735d", func := "stevedore/stevedorelaw14.IcmpEcho", spec := "icmpEcho", inPlace := ["internal/abi.NoEscape", "internal/bytealg.MakeNoZero"], unfollowed := true, recurses := true, apart := false }
def IcmpEchoSaid : Prop := icmpEchoRow.holds Try.pinned (OpenSpec.ofChange icmpEchoSpec)

/-- ITS FALSE NEIGHBOUR: 'it returns false'. Refute it at one input. -/
def icmpEchoWrong : ChangeSpec := { name := "icmpEcho", fn := fun _ => fun
  | [d1, d2, d3] => { results := [.lit (.bool false)], args := [d1, d2, d3] }
  | _ => none }
def IcmpEchoWrongFalsely : Prop := icmpEchoRow.holds Try.pinned (OpenSpec.ofChange icmpEchoWrong)

/-- 'stevedorelaw10.IpTells': WHATEVER THE INPUT: true; the input reads as it did. -/
def ipTellsSpec : ChangeSpec := { name := "ipTells", fn := fun _ => fun
  | [d1, d2, d3] => { results := [.lit (.bool true)], args := [d1, d2, d3] }
  | _ => none }
def ipTellsRow : OpenClaim := { program := "ytnmeeafnobfobaa", sum := "66b1d00de4bb0bf7c53385edc8c7ea67f63b093a645b44680f13fa5a5dce735d", func := "stevedore/stevedorelaw10.IpTells", spec := "ipTells", inPlace := ["internal/abi.NoEscape", "internal/bytealg.MakeNoZero"], unfollowed := true, recurses := true, apart := false }
def IpTellsSaid : Prop := ipTellsRow.holds Try.pinned (OpenSpec.ofChange ipTellsSpec)

/-- ITS FALSE NEIGHBOUR: 'it returns false'. Refute it at one input. -/
def ipTellsWrong : ChangeSpec := { name := "ipTells", fn := fun _ => fun
  | [d1, d2, d3] => { results := [.lit (.bool false)], args := [d1, d2, d3] }
  | _ => none }
def IpTellsWrongFalsely : Prop := ipTellsRow.holds Try.pinned (OpenSpec.ofChange ipTellsWrong)

/-- 'stevedorelaw10.IpPasses': WHATEVER THE INPUT: true; the input reads as it did. -/
def ipPassesSpec : ChangeSpec := { name := "ipPasses", fn := fun _ => fun
  | [d] => { results := [.lit (.bool true)], args := [d] }
  | _ => none }
def ipPassesRow : OpenClaim := { program := "ytnmeeafnobfobaa", sum := "66b1d00de4bb0bf7c53385edc8c7ea67f63b093a645b44680f13fa5a5dce735d", func := "stevedore/stevedorelaw10.IpPasses", spec := "ipPasses", inPlace := ["internal/abi.NoEscape", "internal/bytealg.MakeNoZero"], unfollowed := true, recurses := true, apart := false }
def IpPassesSaid : Prop := ipPassesRow.holds Try.pinned (OpenSpec.ofChange ipPassesSpec)

/-- ITS FALSE NEIGHBOUR: 'it returns false'. Refute it at one input. -/
def ipPassesWrong : ChangeSpec := { name := "ipPasses", fn := fun _ => fun
  | [d] => { results := [.lit (.bool false)], args := [d] }
  | _ => none }
def IpPassesWrongFalsely : Prop := ipPassesRow.holds Try.pinned (OpenSpec.ofChange ipPassesWrong)

/-- 'stevedorelaw10.IpBack': WHATEVER THE INPUT: true; the input reads as it did. -/
def ipBackSpec : ChangeSpec := { name := "ipBack", fn := fun _ => fun
  | [d1, d2, d3, d4, d5, d6] => { results := [.lit (.bool true)], args := [d1, d2, d3, d4, d5, d6] }
  | _ => none }
def ipBackRow : OpenClaim := { program := "ytnmeeafnobfobaa", sum := "66b1d00de4bb0bf7c53385edc8c7ea67f63b093a645b44680f13fa5a5dce735d", func := "stevedore/stevedorelaw10.IpBack", spec := "ipBack", inPlace := ["internal/abi.NoEscape", "internal/bytealg.MakeNoZero"], unfollowed := true, recurses := true, apart := false }
def IpBackSaid : Prop := ipBackRow.holds Try.pinned (OpenSpec.ofChange ipBackSpec)

/-- ITS FALSE NEIGHBOUR: 'it returns false'. Refute it at one input. -/
def ipBackWrong : ChangeSpec := { name := "ipBack", fn := fun _ => fun
  | [d1, d2, d3, d4, d5, d6] => { results := [.lit (.bool false)], args := [d1, d2, d3, d4, d5, d6] }
  | _ => none }
def IpBackWrongFalsely : Prop := ipBackRow.holds Try.pinned (OpenSpec.ofChange ipBackWrong)

/-- 'stevedorelaw10.IpNew': WHATEVER THE INPUT: true; the input reads as it did. -/
def ipNewSpec : ChangeSpec := { name := "ipNew", fn := fun _ => fun
  | [d1, d2, d3, d4] => { results := [.lit (.bool true)], args := [d1, d2, d3, d4] }
  | _ => none }
def ipNewRow : OpenClaim := { program := "ytnmeeafnobfobaa", sum := "66b1d00de4bb0bf7c53385edc8c7ea67f63b093a645b44680f13fa5a5dce735d", func := "stevedore/stevedorelaw10.IpNew", spec := "ipNew", inPlace := ["internal/abi.NoEscape", "internal/bytealg.MakeNoZero"], unfollowed := true, recurses := true, apart := false }
def IpNewSaid : Prop := ipNewRow.holds Try.pinned (OpenSpec.ofChange ipNewSpec)

/-- ITS FALSE NEIGHBOUR: 'it returns false'. Refute it at one input. -/
def ipNewWrong : ChangeSpec := { name := "ipNew", fn := fun _ => fun
  | [d1, d2, d3, d4] => { results := [.lit (.bool false)], args := [d1, d2, d3, d4] }
  | _ => none }
def IpNewWrongFalsely : Prop := ipNewRow.holds Try.pinned (OpenSpec.ofChange ipNewWrong)

/-- 'stevedorelaw10.IpOptions': WHATEVER THE INPUT: true; the input reads as it did. -/
def ipOptionsSpec : ChangeSpec := { name := "ipOptions", fn := fun _ => fun
  | [d1, d2] => { results := [.lit (.bool true)], args := [d1, d2] }
  | _ => none }
def ipOptionsRow : OpenClaim := { program := "ytnmeeafnobfobaa", sum := "66b1d00de4bb0bf7c53385edc8c7ea67f63b093a645b44680f13fa5a5dce735d", func := "stevedore/stevedorelaw10.IpOptions", spec := "ipOptions", inPlace := ["internal/abi.NoEscape", "internal/bytealg.MakeNoZero"], unfollowed := true, recurses := true, apart := false }
def IpOptionsSaid : Prop := ipOptionsRow.holds Try.pinned (OpenSpec.ofChange ipOptionsSpec)

/-- ITS FALSE NEIGHBOUR: 'it returns false'. Refute it at one input. -/
def ipOptionsWrong : ChangeSpec := { name := "ipOptions", fn := fun _ => fun
  | [d1, d2] => { results := [.lit (.bool false)], args := [d1, d2] }
  | _ => none }
def IpOptionsWrongFalsely : Prop := ipOptionsRow.holds Try.pinned (OpenSpec.ofChange ipOptionsWrong)

/-- 'stevedorelaw10.IpList': WHATEVER THE INPUT: true; the input reads as it did. -/
def ipListSpec : ChangeSpec := { name := "ipList", fn := fun _ => fun
  | [d1, d2] => { results := [.lit (.bool true)], args := [d1, d2] }
  | _ => none }
def ipListRow : OpenClaim := { program := "ytnmeeafnobfobaa", sum := "66b1d00de4bb0bf7c53385edc8c7ea67f63b093a645b44680f13fa5a5dce735d", func := "stevedore/stevedorelaw10.IpList", spec := "ipList", inPlace := ["internal/abi.NoEscape", "internal/bytealg.MakeNoZero"], unfollowed := true, recurses := true, apart := false }
def IpListSaid : Prop := ipListRow.holds Try.pinned (OpenSpec.ofChange ipListSpec)

/-- ITS FALSE NEIGHBOUR: 'it returns false'. Refute it at one input. -/
def ipListWrong : ChangeSpec := { name := "ipList", fn := fun _ => fun
  | [d1, d2] => { results := [.lit (.bool false)], args := [d1, d2] }
  | _ => none }
def IpListWrongFalsely : Prop := ipListRow.holds Try.pinned (OpenSpec.ofChange ipListWrong)

/- THE SECOND FORM. 'bulk': how many values and letters a reading holds, each counted each time it is reached (what is shared counts as often as it is met; a slice's spare places count too). A statement '..UptoSaid' is the law's where the arguments, and the package variables that the reading takes, are together of bulk at most 1048576: NARROWER than '..Said'. Prove '..Said' where nothing that the law and all that it calls make is longer than what came in: it says more and counts as full. Else prove '..UptoSaid'. A law counts once. -/
mutual
def uptoBulk {H : Type} : DataW H → Nat
  | .lit (.string bytes) => bytes.length + 1
  | .lit _ => 1
  | .nil => 1
  | .ptr d => uptoBulk d + 1
  | .slice elems spare => uptoBulkAll elems + uptoBulkAll spare + 1
  | .agg parts => uptoBulkAll parts + 1
  | .iface _ d => uptoBulk d + 1
  | .map entries => uptoBulkEntries entries + 1
  | .held _ => 1
def uptoBulkAll {H : Type} : List (DataW H) → Nat
  | [] => 0
  | d :: r => uptoBulk d + uptoBulkAll r
def uptoBulkEntries {H : Type} : List (Lit × DataW H) → Nat
  | [] => 0
  | x :: r => uptoBulkEntry x + uptoBulkEntries r
def uptoBulkEntry {H : Type} : Lit × DataW H → Nat
  | (.string bytes, d) => bytes.length + uptoBulk d + 1
  | (_, d) => uptoBulk d + 1
 end
def uptoSmall : (H : Type) → List (DataW H) → Bool := fun _ ds => decide (uptoBulkAll ds ≤ 1048576)
def OpenSpec.upto (s : _root_.Go.ChangeSpec) : _root_.Go.OpenSpec := { _root_.Go.OpenSpec.ofChange s with cond := some uptoSmall }

/-- 'stevedorelaw14.IcmpTells', WHERE WHAT IT READS IS OF BULK AT MOST 1048576: true; the input reads as it did. -/
def icmpTellsUptoRow : OpenClaim := { program := "ytnmeeafnobfobaa", sum := "66b1d00de4bb0bf7c53385edc8c7ea67f63b093a645b44680f13fa5a5dce735d", func := "stevedore/stevedorelaw14.IcmpTells", spec := "icmpTells", inPlace := ["internal/abi.NoEscape", "internal/bytealg.MakeNoZero"], unfollowed := true, recurses := true, apart := false, narrowed := true }
def IcmpTellsUptoSaid : Prop := icmpTellsUptoRow.holds Try.pinned (OpenSpec.upto icmpTellsSpec)

/-- 'stevedorelaw14.IcmpErrors', WHERE WHAT IT READS IS OF BULK AT MOST 1048576: true; the input reads as it did. -/
def icmpErrorsUptoRow : OpenClaim := { program := "ytnmeeafnobfobaa", sum := "66b1d00de4bb0bf7c53385edc8c7ea67f63b093a645b44680f13fa5a5dce735d", func := "stevedore/stevedorelaw14.IcmpErrors", spec := "icmpErrors", inPlace := ["internal/abi.NoEscape", "internal/bytealg.MakeNoZero"], unfollowed := true, recurses := true, apart := false, narrowed := true }
def IcmpErrorsUptoSaid : Prop := icmpErrorsUptoRow.holds Try.pinned (OpenSpec.upto icmpErrorsSpec)

/-- 'stevedorelaw14.IcmpBack', WHERE WHAT IT READS IS OF BULK AT MOST 1048576: true; the input reads as it did. -/
def icmpBackUptoRow : OpenClaim := { program := "ytnmeeafnobfobaa", sum := "66b1d00de4bb0bf7c53385edc8c7ea67f63b093a645b44680f13fa5a5dce735d", func := "stevedore/stevedorelaw14.IcmpBack", spec := "icmpBack", inPlace := ["internal/abi.NoEscape", "internal/bytealg.MakeNoZero"], unfollowed := true, recurses := true, apart := false, narrowed := true }
def IcmpBackUptoSaid : Prop := icmpBackUptoRow.holds Try.pinned (OpenSpec.upto icmpBackSpec)

/-- 'stevedorelaw14.IcmpQuotes', WHERE WHAT IT READS IS OF BULK AT MOST 1048576: true; the input reads as it did. -/
def icmpQuotesUptoRow : OpenClaim := { program := "ytnmeeafnobfobaa", sum := "66b1d00de4bb0bf7c53385edc8c7ea67f63b093a645b44680f13fa5a5dce735d", func := "stevedore/stevedorelaw14.IcmpQuotes", spec := "icmpQuotes", inPlace := ["internal/abi.NoEscape", "internal/bytealg.MakeNoZero"], unfollowed := true, recurses := true, apart := false, narrowed := true }
def IcmpQuotesUptoSaid : Prop := icmpQuotesUptoRow.holds Try.pinned (OpenSpec.upto icmpQuotesSpec)

/-- 'stevedorelaw14.IcmpEcho', WHERE WHAT IT READS IS OF BULK AT MOST 1048576: true; the input reads as it did. -/
def icmpEchoUptoRow : OpenClaim := { program := "ytnmeeafnobfobaa", sum := "66b1d00de4bb0bf7c53385edc8c7ea67f63b093a645b44680f13fa5a5dce735d", func := "stevedore/stevedorelaw14.IcmpEcho", spec := "icmpEcho", inPlace := ["internal/abi.NoEscape", "internal/bytealg.MakeNoZero"], unfollowed := true, recurses := true, apart := false, narrowed := true }
def IcmpEchoUptoSaid : Prop := icmpEchoUptoRow.holds Try.pinned (OpenSpec.upto icmpEchoSpec)

/-- 'stevedorelaw10.IpTells', WHERE WHAT IT READS IS OF BULK AT MOST 1048576: true; the input reads as it did. -/
def ipTellsUptoRow : OpenClaim := { program := "ytnmeeafnobfobaa", sum := "66b1d00de4bb0bf7c53385edc8c7ea67f63b093a645b44680f13fa5a5dce735d", func := "stevedore/stevedorelaw10.IpTells", spec := "ipTells", inPlace := ["internal/abi.NoEscape", "internal/bytealg.MakeNoZero"], unfollowed := true, recurses := true, apart := false, narrowed := true }
def IpTellsUptoSaid : Prop := ipTellsUptoRow.holds Try.pinned (OpenSpec.upto ipTellsSpec)

/-- 'stevedorelaw10.IpPasses', WHERE WHAT IT READS IS OF BULK AT MOST 1048576: true; the input reads as it did. -/
def ipPassesUptoRow : OpenClaim := { program := "ytnmeeafnobfobaa", sum := "66b1d00de4bb0bf7c53385edc8c7ea67f63b093a645b44680f13fa5a5dce735d", func := "stevedore/stevedorelaw10.IpPasses", spec := "ipPasses", inPlace := ["internal/abi.NoEscape", "internal/bytealg.MakeNoZero"], unfollowed := true, recurses := true, apart := false, narrowed := true }
def IpPassesUptoSaid : Prop := ipPassesUptoRow.holds Try.pinned (OpenSpec.upto ipPassesSpec)

/-- 'stevedorelaw10.IpBack', WHERE WHAT IT READS IS OF BULK AT MOST 1048576: true; the input reads as it did. -/
def ipBackUptoRow : OpenClaim := { program := "ytnmeeafnobfobaa", sum := "66b1d00de4bb0bf7c53385edc8c7ea67f63b093a645b44680f13fa5a5dce735d", func := "stevedore/stevedorelaw10.IpBack", spec := "ipBack", inPlace := ["internal/abi.NoEscape", "internal/bytealg.MakeNoZero"], unfollowed := true, recurses := true, apart := false, narrowed := true }
def IpBackUptoSaid : Prop := ipBackUptoRow.holds Try.pinned (OpenSpec.upto ipBackSpec)

/-- 'stevedorelaw10.IpNew', WHERE WHAT IT READS IS OF BULK AT MOST 1048576: true; the input reads as it did. -/
def ipNewUptoRow : OpenClaim := { program := "ytnmeeafnobfobaa", sum := "66b1d00de4bb0bf7c53385edc8c7ea67f63b093a645b44680f13fa5a5dce735d", func := "stevedore/stevedorelaw10.IpNew", spec := "ipNew", inPlace := ["internal/abi.NoEscape", "internal/bytealg.MakeNoZero"], unfollowed := true, recurses := true, apart := false, narrowed := true }
def IpNewUptoSaid : Prop := ipNewUptoRow.holds Try.pinned (OpenSpec.upto ipNewSpec)

/-- 'stevedorelaw10.IpOptions', WHERE WHAT IT READS IS OF BULK AT MOST 1048576: true; the input reads as it did. -/
def ipOptionsUptoRow : OpenClaim := { program := "ytnmeeafnobfobaa", sum := "66b1d00de4bb0bf7c53385edc8c7ea67f63b093a645b44680f13fa5a5dce735d", func := "stevedore/stevedorelaw10.IpOptions", spec := "ipOptions", inPlace := ["internal/abi.NoEscape", "internal/bytealg.MakeNoZero"], unfollowed := true, recurses := true, apart := false, narrowed := true }
def IpOptionsUptoSaid : Prop := ipOptionsUptoRow.holds Try.pinned (OpenSpec.upto ipOptionsSpec)

/-- 'stevedorelaw10.IpList', WHERE WHAT IT READS IS OF BULK AT MOST 1048576: true; the input reads as it did. -/
def ipListUptoRow : OpenClaim := { program := "ytnmeeafnobfobaa", sum := "66b1d00de4bb0bf7c53385edc8c7ea67f63b093a645b44680f13fa5a5dce735d", func := "stevedore/stevedorelaw10.IpList", spec := "ipList", inPlace := ["internal/abi.NoEscape", "internal/bytealg.MakeNoZero"], unfollowed := true, recurses := true, apart := false, narrowed := true }
def IpListUptoSaid : Prop := ipListUptoRow.holds Try.pinned (OpenSpec.upto ipListSpec)

end Rows
end Go.Proofs.Ytnmeeafnobfobaa
