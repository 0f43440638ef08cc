/-
  No cell of these rows narrows 'for every input' (looked for: loops, veiled, ifaces, maps, wideKeys, modest, calm, conditions, laid).
  DERIVED. THE GIVEN ROWS OF THIS SEAT. 12 by the template 'for every input the law returns true; each argument reads behind the call as it read before'; 0 by the template 'total and deterministic' (their statements: YtlpeefemffmpmaaTotals.lean).
  GIVEN WITH THE SEED: the statements are not yours to turn. If you find one false, say at which input.
  Laid BY PROGRAM, IN A SANDBOX (cutbox-rows.mjs): the forced cells as the released guide's own fill.sh prints them over the translation fde93aa4a3a67bd6… (all of the seat's roots in one cut). By AI agents, Wed Nov 11 2026. No macro, syntax, notation, axiom, sorry.
-/
import Derived.Test.YtlpeefemffmpmaaChecked
import GoSem.Claim
import GoSem.ClaimJoined
import GoSem.ClaimMapViews
import Derived.JoinedTies
import Derived.KernelRfl
namespace Go.Proofs.Ytlpeefemffmpmaa
/- THE CELL 'sum', in the pinned program and in every row, IS THE sha256 OF THE DUMP (.gsa) THAT YtlpeefemffmpmaaProg.lean LOADS. Nothing in Lean hashes anything: it is a label: what it is worth is what the hold of that sum in a sandbox is worth. -/
noncomputable def Try.pinned : Pinned := { name := "ytlpeefemffmpmaa", sum := "fde93aa4a3a67bd6dc9ef380001bd8c550b814559731c2af061fd4450c1e62f1", checked := Try.checked }
namespace Rows
def none {H : Type} : Left H := { results := [], args := [] }

/-- 'stevedorelaw02.SumTells': WHATEVER THE INPUT: true; the input reads as it did. -/
def sumTellsSpec : ChangeSpec := { name := "sumTells", fn := fun _ => fun
  | [d1, d2, d3, d4, d5, d6, d7, d8] => { results := [.lit (.bool true)], args := [d1, d2, d3, d4, d5, d6, d7, d8] }
  | _ => none }
def sumTellsRow : OpenClaim := { program := "ytlpeefemffmpmaa", sum := "fde93aa4a3a67bd6dc9ef380001bd8c550b814559731c2af061fd4450c1e62f1", func := "stevedore/stevedorelaw02.SumTells", spec := "sumTells", inPlace := ["internal/abi.NoEscape", "internal/bytealg.MakeNoZero"], unfollowed := true, recurses := true, apart := false }
def SumTellsSaid : Prop := sumTellsRow.holds Try.pinned (OpenSpec.ofChange sumTellsSpec)

/-- ITS FALSE NEIGHBOUR: 'it returns false'. Refute it at one input. -/
def sumTellsWrong : ChangeSpec := { name := "sumTells", fn := fun _ => fun
  | [d1, d2, d3, d4, d5, d6, d7, d8] => { results := [.lit (.bool false)], args := [d1, d2, d3, d4, d5, d6, d7, d8] }
  | _ => none }
def SumTellsWrongFalsely : Prop := sumTellsRow.holds Try.pinned (OpenSpec.ofChange sumTellsWrong)

/-- 'stevedorelaw02.SumRight': WHATEVER THE INPUT: true; the input reads as it did. -/
def sumRightSpec : ChangeSpec := { name := "sumRight", fn := fun _ => fun
  | [d1, d2, d3, d4] => { results := [.lit (.bool true)], args := [d1, d2, d3, d4] }
  | _ => none }
def sumRightRow : OpenClaim := { program := "ytlpeefemffmpmaa", sum := "fde93aa4a3a67bd6dc9ef380001bd8c550b814559731c2af061fd4450c1e62f1", func := "stevedore/stevedorelaw02.SumRight", spec := "sumRight", inPlace := ["internal/abi.NoEscape", "internal/bytealg.MakeNoZero"], unfollowed := true, recurses := true, apart := false }
def SumRightSaid : Prop := sumRightRow.holds Try.pinned (OpenSpec.ofChange sumRightSpec)

/-- ITS FALSE NEIGHBOUR: 'it returns false'. Refute it at one input. -/
def sumRightWrong : ChangeSpec := { name := "sumRight", fn := fun _ => fun
  | [d1, d2, d3, d4] => { results := [.lit (.bool false)], args := [d1, d2, d3, d4] }
  | _ => none }
def SumRightWrongFalsely : Prop := sumRightRow.holds Try.pinned (OpenSpec.ofChange sumRightWrong)

/-- 'stevedorelaw02.SumWords': WHATEVER THE INPUT: true; the input reads as it did. -/
def sumWordsSpec : ChangeSpec := { name := "sumWords", fn := fun _ => fun
  | [d1, d2, d3, d4] => { results := [.lit (.bool true)], args := [d1, d2, d3, d4] }
  | _ => none }
def sumWordsRow : OpenClaim := { program := "ytlpeefemffmpmaa", sum := "fde93aa4a3a67bd6dc9ef380001bd8c550b814559731c2af061fd4450c1e62f1", func := "stevedore/stevedorelaw02.SumWords", spec := "sumWords", inPlace := ["internal/abi.NoEscape", "internal/bytealg.MakeNoZero"], unfollowed := true, recurses := true, apart := false }
def SumWordsSaid : Prop := sumWordsRow.holds Try.pinned (OpenSpec.ofChange sumWordsSpec)

/-- ITS FALSE NEIGHBOUR: 'it returns false'. Refute it at one input. -/
def sumWordsWrong : ChangeSpec := { name := "sumWords", fn := fun _ => fun
  | [d1, d2, d3, d4] => { results := [.lit (.bool false)], args := [d1, d2, d3, d4] }
  | _ => none }
def SumWordsWrongFalsely : Prop := sumWordsRow.holds Try.pinned (OpenSpec.ofChange sumWordsWrong)

/-- 'stevedorelaw02.SumTurns': WHATEVER THE INPUT: true; the input reads as it did. -/
def sumTurnsSpec : ChangeSpec := { name := "sumTurns", fn := fun _ => fun
  | [d1, d2, d3, d4, d5] => { results := [.lit (.bool true)], args := [d1, d2, d3, d4, d5] }
  | _ => none }
def sumTurnsRow : OpenClaim := { program := "ytlpeefemffmpmaa", sum := "fde93aa4a3a67bd6dc9ef380001bd8c550b814559731c2af061fd4450c1e62f1", func := "stevedore/stevedorelaw02.SumTurns", spec := "sumTurns", inPlace := ["internal/abi.NoEscape", "internal/bytealg.MakeNoZero"], unfollowed := true, recurses := true, apart := false }
def SumTurnsSaid : Prop := sumTurnsRow.holds Try.pinned (OpenSpec.ofChange sumTurnsSpec)

/-- ITS FALSE NEIGHBOUR: 'it returns false'. Refute it at one input. -/
def sumTurnsWrong : ChangeSpec := { name := "sumTurns", fn := fun _ => fun
  | [d1, d2, d3, d4, d5] => { results := [.lit (.bool false)], args := [d1, d2, d3, d4, d5] }
  | _ => none }
def SumTurnsWrongFalsely : Prop := sumTurnsRow.holds Try.pinned (OpenSpec.ofChange sumTurnsWrong)

/-- 'stevedorelaw15.UdpTells': WHATEVER THE INPUT: true; the input reads as it did. -/
def udpTellsSpec : ChangeSpec := { name := "udpTells", fn := fun _ => fun
  | [d1, d2, d3, d4] => { results := [.lit (.bool true)], args := [d1, d2, d3, d4] }
  | _ => none }
def udpTellsRow : OpenClaim := { program := "ytlpeefemffmpmaa", sum := "fde93aa4a3a67bd6dc9ef380001bd8c550b814559731c2af061fd4450c1e62f1", func := "stevedore/stevedorelaw15.UdpTells", spec := "udpTells", inPlace := ["internal/abi.NoEscape", "internal/bytealg.MakeNoZero"], unfollowed := true, recurses := true, apart := false }
def UdpTellsSaid : Prop := udpTellsRow.holds Try.pinned (OpenSpec.ofChange udpTellsSpec)

/-- ITS FALSE NEIGHBOUR: 'it returns false'. Refute it at one input. -/
def udpTellsWrong : ChangeSpec := { name := "udpTells", fn := fun _ => fun
  | [d1, d2, d3, d4] => { results := [.lit (.bool false)], args := [d1, d2, d3, d4] }
  | _ => none }
def UdpTellsWrongFalsely : Prop := udpTellsRow.holds Try.pinned (OpenSpec.ofChange udpTellsWrong)

/-- 'stevedorelaw15.UdpSpoilt': WHATEVER THE INPUT: true; the input reads as it did. -/
def udpSpoiltSpec : ChangeSpec := { name := "udpSpoilt", fn := fun _ => fun
  | [d1, d2, d3, d4, d5] => { results := [.lit (.bool true)], args := [d1, d2, d3, d4, d5] }
  | _ => none }
def udpSpoiltRow : OpenClaim := { program := "ytlpeefemffmpmaa", sum := "fde93aa4a3a67bd6dc9ef380001bd8c550b814559731c2af061fd4450c1e62f1", func := "stevedore/stevedorelaw15.UdpSpoilt", spec := "udpSpoilt", inPlace := ["internal/abi.NoEscape", "internal/bytealg.MakeNoZero"], unfollowed := true, recurses := true, apart := false }
def UdpSpoiltSaid : Prop := udpSpoiltRow.holds Try.pinned (OpenSpec.ofChange udpSpoiltSpec)

/-- ITS FALSE NEIGHBOUR: 'it returns false'. Refute it at one input. -/
def udpSpoiltWrong : ChangeSpec := { name := "udpSpoilt", fn := fun _ => fun
  | [d1, d2, d3, d4, d5] => { results := [.lit (.bool false)], args := [d1, d2, d3, d4, d5] }
  | _ => none }
def UdpSpoiltWrongFalsely : Prop := udpSpoiltRow.holds Try.pinned (OpenSpec.ofChange udpSpoiltWrong)

/-- 'stevedorelaw15.UdpEnds': WHATEVER THE INPUT: true; the input reads as it did. -/
def udpEndsSpec : ChangeSpec := { name := "udpEnds", fn := fun _ => fun
  | [d1, d2, d3, d4] => { results := [.lit (.bool true)], args := [d1, d2, d3, d4] }
  | _ => none }
def udpEndsRow : OpenClaim := { program := "ytlpeefemffmpmaa", sum := "fde93aa4a3a67bd6dc9ef380001bd8c550b814559731c2af061fd4450c1e62f1", func := "stevedore/stevedorelaw15.UdpEnds", spec := "udpEnds", inPlace := ["internal/abi.NoEscape", "internal/bytealg.MakeNoZero"], unfollowed := true, recurses := true, apart := false }
def UdpEndsSaid : Prop := udpEndsRow.holds Try.pinned (OpenSpec.ofChange udpEndsSpec)

/-- ITS FALSE NEIGHBOUR: 'it returns false'. Refute it at one input. -/
def udpEndsWrong : ChangeSpec := { name := "udpEnds", fn := fun _ => fun
  | [d1, d2, d3, d4] => { results := [.lit (.bool false)], args := [d1, d2, d3, d4] }
  | _ => none }
def UdpEndsWrongFalsely : Prop := udpEndsRow.holds Try.pinned (OpenSpec.ofChange udpEndsWrong)

/-- 'stevedorelaw16.TcpTells': WHATEVER THE INPUT: true; the input reads as it did. -/
def tcpTellsSpec : ChangeSpec := { name := "tcpTells", fn := fun _ => fun
  | [d1, d2, d3, d4] => { results := [.lit (.bool true)], args := [d1, d2, d3, d4] }
  | _ => none }
def tcpTellsRow : OpenClaim := { program := "ytlpeefemffmpmaa", sum := "fde93aa4a3a67bd6dc9ef380001bd8c550b814559731c2af061fd4450c1e62f1", func := "stevedore/stevedorelaw16.TcpTells", spec := "tcpTells", inPlace := ["internal/abi.NoEscape", "internal/bytealg.MakeNoZero"], unfollowed := true, recurses := true, apart := false }
def TcpTellsSaid : Prop := tcpTellsRow.holds Try.pinned (OpenSpec.ofChange tcpTellsSpec)

/-- ITS FALSE NEIGHBOUR: 'it returns false'. Refute it at one input. -/
def tcpTellsWrong : ChangeSpec := { name := "tcpTells", fn := fun _ => fun
  | [d1, d2, d3, d4] => { results := [.lit (.bool false)], args := [d1, d2, d3, d4] }
  | _ => none }
def TcpTellsWrongFalsely : Prop := tcpTellsRow.holds Try.pinned (OpenSpec.ofChange tcpTellsWrong)

/-- 'stevedorelaw16.TcpBack': WHATEVER THE INPUT: true; the input reads as it did. -/
def tcpBackSpec : ChangeSpec := { name := "tcpBack", fn := fun _ => fun
  | [d1, d2, d3, d4] => { results := [.lit (.bool true)], args := [d1, d2, d3, d4] }
  | _ => none }
def tcpBackRow : OpenClaim := { program := "ytlpeefemffmpmaa", sum := "fde93aa4a3a67bd6dc9ef380001bd8c550b814559731c2af061fd4450c1e62f1", func := "stevedore/stevedorelaw16.TcpBack", spec := "tcpBack", inPlace := ["internal/abi.NoEscape", "internal/bytealg.MakeNoZero"], unfollowed := true, recurses := true, apart := false }
def TcpBackSaid : Prop := tcpBackRow.holds Try.pinned (OpenSpec.ofChange tcpBackSpec)

/-- ITS FALSE NEIGHBOUR: 'it returns false'. Refute it at one input. -/
def tcpBackWrong : ChangeSpec := { name := "tcpBack", fn := fun _ => fun
  | [d1, d2, d3, d4] => { results := [.lit (.bool false)], args := [d1, d2, d3, d4] }
  | _ => none }
def TcpBackWrongFalsely : Prop := tcpBackRow.holds Try.pinned (OpenSpec.ofChange tcpBackWrong)

/-- 'stevedorelaw16.TcpOptions': WHATEVER THE INPUT: true; the input reads as it did. -/
def tcpOptionsSpec : ChangeSpec := { name := "tcpOptions", fn := fun _ => fun
  | [d1, d2, d3, d4] => { results := [.lit (.bool true)], args := [d1, d2, d3, d4] }
  | _ => none }
def tcpOptionsRow : OpenClaim := { program := "ytlpeefemffmpmaa", sum := "fde93aa4a3a67bd6dc9ef380001bd8c550b814559731c2af061fd4450c1e62f1", func := "stevedore/stevedorelaw16.TcpOptions", spec := "tcpOptions", inPlace := ["internal/abi.NoEscape", "internal/bytealg.MakeNoZero"], unfollowed := true, recurses := true, apart := false }
def TcpOptionsSaid : Prop := tcpOptionsRow.holds Try.pinned (OpenSpec.ofChange tcpOptionsSpec)

/-- ITS FALSE NEIGHBOUR: 'it returns false'. Refute it at one input. -/
def tcpOptionsWrong : ChangeSpec := { name := "tcpOptions", fn := fun _ => fun
  | [d1, d2, d3, d4] => { results := [.lit (.bool false)], args := [d1, d2, d3, d4] }
  | _ => none }
def TcpOptionsWrongFalsely : Prop := tcpOptionsRow.holds Try.pinned (OpenSpec.ofChange tcpOptionsWrong)

/-- 'stevedorelaw16.TcpEnds': WHATEVER THE INPUT: true; the input reads as it did. -/
def tcpEndsSpec : ChangeSpec := { name := "tcpEnds", fn := fun _ => fun
  | [d1, d2, d3, d4] => { results := [.lit (.bool true)], args := [d1, d2, d3, d4] }
  | _ => none }
def tcpEndsRow : OpenClaim := { program := "ytlpeefemffmpmaa", sum := "fde93aa4a3a67bd6dc9ef380001bd8c550b814559731c2af061fd4450c1e62f1", func := "stevedore/stevedorelaw16.TcpEnds", spec := "tcpEnds", inPlace := ["internal/abi.NoEscape", "internal/bytealg.MakeNoZero"], unfollowed := true, recurses := true, apart := false }
def TcpEndsSaid : Prop := tcpEndsRow.holds Try.pinned (OpenSpec.ofChange tcpEndsSpec)

/-- ITS FALSE NEIGHBOUR: 'it returns false'. Refute it at one input. -/
def tcpEndsWrong : ChangeSpec := { name := "tcpEnds", fn := fun _ => fun
  | [d1, d2, d3, d4] => { results := [.lit (.bool false)], args := [d1, d2, d3, d4] }
  | _ => none }
def TcpEndsWrongFalsely : Prop := tcpEndsRow.holds Try.pinned (OpenSpec.ofChange tcpEndsWrong)

/-- 'stevedorelaw16.TcpAnswers': WHATEVER THE INPUT: true; the input reads as it did. -/
def tcpAnswersSpec : ChangeSpec := { name := "tcpAnswers", fn := fun _ => fun
  | [d] => { results := [.lit (.bool true)], args := [d] }
  | _ => none }
def tcpAnswersRow : OpenClaim := { program := "ytlpeefemffmpmaa", sum := "fde93aa4a3a67bd6dc9ef380001bd8c550b814559731c2af061fd4450c1e62f1", func := "stevedore/stevedorelaw16.TcpAnswers", spec := "tcpAnswers", inPlace := ["internal/abi.NoEscape", "internal/bytealg.MakeNoZero"], unfollowed := true, recurses := true, apart := false }
def TcpAnswersSaid : Prop := tcpAnswersRow.holds Try.pinned (OpenSpec.ofChange tcpAnswersSpec)

/-- ITS FALSE NEIGHBOUR: 'it returns false'. Refute it at one input. -/
def tcpAnswersWrong : ChangeSpec := { name := "tcpAnswers", fn := fun _ => fun
  | [d] => { results := [.lit (.bool false)], args := [d] }
  | _ => none }
def TcpAnswersWrongFalsely : Prop := tcpAnswersRow.holds Try.pinned (OpenSpec.ofChange tcpAnswersWrong)

/- THE SECOND FORM. 'bulk': how many values and letters a reading holds, each counted each time it is reached (what is shared counts as often as it is met; a slice's spare places count too). A statement '..UptoSaid' is the law's where the arguments, and the package variables that the reading takes, are together of bulk at most 1048576: NARROWER than '..Said'. Prove '..Said' where nothing that the law and all that it calls make is longer than what came in: it says more and counts as full. Else prove '..UptoSaid'. A law counts once. -/
mutual
def uptoBulk {H : Type} : DataW H → Nat
  | .lit (.string bytes) => bytes.length + 1
  | .lit _ => 1
  | .nil => 1
  | .ptr d => uptoBulk d + 1
  | .slice elems spare => uptoBulkAll elems + uptoBulkAll spare + 1
  | .agg parts => uptoBulkAll parts + 1
  | .iface _ d => uptoBulk d + 1
  | .map entries => uptoBulkEntries entries + 1
  | .held _ => 1
def uptoBulkAll {H : Type} : List (DataW H) → Nat
  | [] => 0
  | d :: r => uptoBulk d + uptoBulkAll r
def uptoBulkEntries {H : Type} : List (Lit × DataW H) → Nat
  | [] => 0
  | x :: r => uptoBulkEntry x + uptoBulkEntries r
def uptoBulkEntry {H : Type} : Lit × DataW H → Nat
  | (.string bytes, d) => bytes.length + uptoBulk d + 1
  | (_, d) => uptoBulk d + 1
 end
def uptoSmall : (H : Type) → List (DataW H) → Bool := fun _ ds => decide (uptoBulkAll ds ≤ 1048576)
def OpenSpec.upto (s : _root_.Go.ChangeSpec) : _root_.Go.OpenSpec := { _root_.Go.OpenSpec.ofChange s with cond := some uptoSmall }

/-- 'stevedorelaw02.SumTells', WHERE WHAT IT READS IS OF BULK AT MOST 1048576: true; the input reads as it did. -/
def sumTellsUptoRow : OpenClaim := { program := "ytlpeefemffmpmaa", sum := "fde93aa4a3a67bd6dc9ef380001bd8c550b814559731c2af061fd4450c1e62f1", func := "stevedore/stevedorelaw02.SumTells", spec := "sumTells", inPlace := ["internal/abi.NoEscape", "internal/bytealg.MakeNoZero"], unfollowed := true, recurses := true, apart := false, narrowed := true }
def SumTellsUptoSaid : Prop := sumTellsUptoRow.holds Try.pinned (OpenSpec.upto sumTellsSpec)

/-- 'stevedorelaw02.SumRight', WHERE WHAT IT READS IS OF BULK AT MOST 1048576: true; the input reads as it did. -/
def sumRightUptoRow : OpenClaim := { program := "ytlpeefemffmpmaa", sum := "fde93aa4a3a67bd6dc9ef380001bd8c550b814559731c2af061fd4450c1e62f1", func := "stevedore/stevedorelaw02.SumRight", spec := "sumRight", inPlace := ["internal/abi.NoEscape", "internal/bytealg.MakeNoZero"], unfollowed := true, recurses := true, apart := false, narrowed := true }
def SumRightUptoSaid : Prop := sumRightUptoRow.holds Try.pinned (OpenSpec.upto sumRightSpec)

/-- 'stevedorelaw02.SumWords', WHERE WHAT IT READS IS OF BULK AT MOST 1048576: true; the input reads as it did. -/
def sumWordsUptoRow : OpenClaim := { program := "ytlpeefemffmpmaa", sum := "fde93aa4a3a67bd6dc9ef380001bd8c550b814559731c2af061fd4450c1e62f1", func := "stevedore/stevedorelaw02.SumWords", spec := "sumWords", inPlace := ["internal/abi.NoEscape", "internal/bytealg.MakeNoZero"], unfollowed := true, recurses := true, apart := false, narrowed := true }
def SumWordsUptoSaid : Prop := sumWordsUptoRow.holds Try.pinned (OpenSpec.upto sumWordsSpec)

/-- 'stevedorelaw02.SumTurns', WHERE WHAT IT READS IS OF BULK AT MOST 1048576: true; the input reads as it did. -/
def sumTurnsUptoRow : OpenClaim := { program := "ytlpeefemffmpmaa", sum := "fde93aa4a3a67bd6dc9ef380001bd8c550b814559731c2af061fd4450c1e62f1", func := "stevedore/stevedorelaw02.SumTurns", spec := "sumTurns", inPlace := ["internal/abi.NoEscape", "internal/bytealg.MakeNoZero"], unfollowed := true, recurses := true, apart := false, narrowed := true }
def SumTurnsUptoSaid : Prop := sumTurnsUptoRow.holds Try.pinned (OpenSpec.upto sumTurnsSpec)

/-- 'stevedorelaw15.UdpTells', WHERE WHAT IT READS IS OF BULK AT MOST 1048576: true; the input reads as it did. -/
def udpTellsUptoRow : OpenClaim := { program := "ytlpeefemffmpmaa", sum := "fde93aa4a3a67bd6dc9ef380001bd8c550b814559731c2af061fd4450c1e62f1", func := "stevedore/stevedorelaw15.UdpTells", spec := "udpTells", inPlace := ["internal/abi.NoEscape", "internal/bytealg.MakeNoZero"], unfollowed := true, recurses := true, apart := false, narrowed := true }
def UdpTellsUptoSaid : Prop := udpTellsUptoRow.holds Try.pinned (OpenSpec.upto udpTellsSpec)

/-- 'stevedorelaw15.UdpSpoilt', WHERE WHAT IT READS IS OF BULK AT MOST 1048576: true; the input reads as it did. -/
def udpSpoiltUptoRow : OpenClaim := { program := "ytlpeefemffmpmaa", sum := "fde93aa4a3a67bd6dc9ef380001bd8c550b814559731c2af061fd4450c1e62f1", func := "stevedore/stevedorelaw15.UdpSpoilt", spec := "udpSpoilt", inPlace := ["internal/abi.NoEscape", "internal/bytealg.MakeNoZero"], unfollowed := true, recurses := true, apart := false, narrowed := true }
def UdpSpoiltUptoSaid : Prop := udpSpoiltUptoRow.holds Try.pinned (OpenSpec.upto udpSpoiltSpec)

/-- 'stevedorelaw15.UdpEnds', WHERE WHAT IT READS IS OF BULK AT MOST 1048576: true; the input reads as it did. -/
def udpEndsUptoRow : OpenClaim := { program := "ytlpeefemffmpmaa", sum := "fde93aa4a3a67bd6dc9ef380001bd8c550b814559731c2af061fd4450c1e62f1", func := "stevedore/stevedorelaw15.UdpEnds", spec := "udpEnds", inPlace := ["internal/abi.NoEscape", "internal/bytealg.MakeNoZero"], unfollowed := true, recurses := true, apart := false, narrowed := true }
def UdpEndsUptoSaid : Prop := udpEndsUptoRow.holds Try.pinned (OpenSpec.upto udpEndsSpec)

/-- 'stevedorelaw16.TcpTells', WHERE WHAT IT READS IS OF BULK AT MOST 1048576: true; the input reads as it did. -/
def tcpTellsUptoRow : OpenClaim := { program := "ytlpeefemffmpmaa", sum := "fde93aa4a3a67bd6dc9ef380001bd8c550b814559731c2af061fd4450c1e62f1", func := "stevedore/stevedorelaw16.TcpTells", spec := "tcpTells", inPlace := ["internal/abi.NoEscape", "internal/bytealg.MakeNoZero"], unfollowed := true, recurses := true, apart := false, narrowed := true }
def TcpTellsUptoSaid : Prop := tcpTellsUptoRow.holds Try.pinned (OpenSpec.upto tcpTellsSpec)

/-- 'stevedorelaw16.TcpBack', WHERE WHAT IT READS IS OF BULK AT MOST 1048576: true; the input reads as it did. -/
def tcpBackUptoRow : OpenClaim := { program := "ytlpeefemffmpmaa", sum := "fde93aa4a3a67bd6dc9ef380001bd8c550b814559731c2af061fd4450c1e62f1", func := "stevedore/stevedorelaw16.TcpBack", spec := "tcpBack", inPlace := ["internal/abi.NoEscape", "internal/bytealg.MakeNoZero"], unfollowed := true, recurses := true, apart := false, narrowed := true }
def TcpBackUptoSaid : Prop := tcpBackUptoRow.holds Try.pinned (OpenSpec.upto tcpBackSpec)

/-- 'stevedorelaw16.TcpOptions', WHERE WHAT IT READS IS OF BULK AT MOST 1048576: true; the input reads as it did. -/
def tcpOptionsUptoRow : OpenClaim := { program := "ytlpeefemffmpmaa", sum := "fde93aa4a3a67bd6dc9ef380001bd8c550b814559731c2af061fd4450c1e62f1", func := "stevedore/stevedorelaw16.TcpOptions", spec := "tcpOptions", inPlace := ["internal/abi.NoEscape", "internal/bytealg.MakeNoZero"], unfollowed := true, recurses := true, apart := false, narrowed := true }
def TcpOptionsUptoSaid : Prop := tcpOptionsUptoRow.holds Try.pinned (OpenSpec.upto tcpOptionsSpec)

/-- 'stevedorelaw16.TcpEnds', WHERE WHAT IT READS IS OF BULK AT MOST 1048576: true; the input reads as it did. -/
def tcpEndsUptoRow : OpenClaim := { program := "ytlpeefemffmpmaa", sum := "fde93aa4a3a67bd6dc9ef380001bd8c550b814559731c2af061fd4450c1e62f1", func := "stevedore/stevedorelaw16.TcpEnds", spec := "tcpEnds", inPlace := ["internal/abi.NoEscape", "internal/bytealg.MakeNoZero"], unfollowed := true, recurses := true, apart := false, narrowed := true }
def TcpEndsUptoSaid : Prop := tcpEndsUptoRow.holds Try.pinned (OpenSpec.upto tcpEndsSpec)

/-- 'stevedorelaw16.TcpAnswers', WHERE WHAT IT READS IS OF BULK AT MOST 1048576: true; the input reads as it did. -/
def tcpAnswersUptoRow : OpenClaim := { program := "ytlpeefemffmpmaa", sum := "fde93aa4a3a67bd6dc9ef380001bd8c550b814559731c2af061fd4450c1e62f1", func := "stevedore/stevedorelaw16.TcpAnswers", spec := "tcpAnswers", inPlace := ["internal/abi.NoEscape", "internal/bytealg.MakeNoZero"], unfollowed := true, recurses := true, apart := false, narrowed := true }
def TcpAnswersUptoSaid : Prop := tcpAnswersUptoRow.holds Try.pinned (OpenSpec.upto tcpAnswersSpec)

end Rows
end Go.Proofs.Ytlpeefemffmpmaa
