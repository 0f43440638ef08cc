/-
  No cell of these rows narrows 'for every input' (looked for: loops, veiled, ifaces, maps, wideKeys, modest, calm, conditions, laid).
  DERIVED. THE GIVEN ROWS OF THIS SEAT. 10 by the template 'for every input the law returns true; each argument reads behind the call as it read before'; 0 by the template 'total and deterministic' (their statements: YtmdfkggflainbaaTotals.lean).
  GIVEN WITH THE SEED: the statements are not yours to turn. If you find one false, say at which input.
  Laid BY PROGRAM, IN A SANDBOX (cutbox-rows.mjs): the forced cells as the released guide's own fill.sh prints them over the translation 4a007d501ca1fd03… (all of the seat's roots in one cut). By AI agents, Wed Nov 11 2026. No macro, syntax, notation, axiom, sorry.
-/
import Derived.Test.YtmdfkggflainbaaChecked
import GoSem.Claim
import GoSem.ClaimJoined
import GoSem.ClaimMapViews
import Derived.JoinedTies
import Derived.KernelRfl
namespace Go.Proofs.Ytmdfkggflainbaa
/- THE CELL 'sum', in the pinned program and in every row, IS THE sha256 OF THE DUMP (.gsa) THAT YtmdfkggflainbaaProg.lean LOADS. Nothing in Lean hashes anything: it is a label: what it is worth is what the hold of that sum in a sandbox is worth. -/
noncomputable def Try.pinned : Pinned := { name := "ytmdfkggflainbaa", sum := "4a007d501ca1fd0371a66a4322bc76e259ad8761c3d48728eaad31976f75bfe6", checked := Try.checked }
namespace Rows
def none {H : Type} : Left H := { results := [], args := [] }

/-- 'stevedorelaw18.LockOne': WHATEVER THE INPUT: true; the input reads as it did. -/
def lockOneSpec : ChangeSpec := { name := "lockOne", fn := fun _ => fun
  | [d1, d2] => { results := [.lit (.bool true)], args := [d1, d2] }
  | _ => none }
def lockOneRow : OpenClaim := { program := "ytmdfkggflainbaa", sum := "4a007d501ca1fd0371a66a4322bc76e259ad8761c3d48728eaad31976f75bfe6", func := "stevedore/stevedorelaw18.LockOne", spec := "lockOne", unfollowed := true, recurses := true, plainKeys := false, apart := false }
def LockOneSaid : Prop := lockOneRow.holds Try.pinned (OpenSpec.ofChange lockOneSpec)

/-- ITS FALSE NEIGHBOUR: 'it returns false'. Refute it at one input. -/
def lockOneWrong : ChangeSpec := { name := "lockOne", fn := fun _ => fun
  | [d1, d2] => { results := [.lit (.bool false)], args := [d1, d2] }
  | _ => none }
def LockOneWrongFalsely : Prop := lockOneRow.holds Try.pinned (OpenSpec.ofChange lockOneWrong)

/-- 'stevedorelaw18.WaitsOrder': WHATEVER THE INPUT: true; the input reads as it did. -/
def waitsOrderSpec : ChangeSpec := { name := "waitsOrder", fn := fun _ => fun
  | [d] => { results := [.lit (.bool true)], args := [d] }
  | _ => none }
def waitsOrderRow : OpenClaim := { program := "ytmdfkggflainbaa", sum := "4a007d501ca1fd0371a66a4322bc76e259ad8761c3d48728eaad31976f75bfe6", func := "stevedore/stevedorelaw18.WaitsOrder", spec := "waitsOrder", unfollowed := true, recurses := true, plainKeys := false, apart := false }
def WaitsOrderSaid : Prop := waitsOrderRow.holds Try.pinned (OpenSpec.ofChange waitsOrderSpec)

/-- ITS FALSE NEIGHBOUR: 'it returns false'. Refute it at one input. -/
def waitsOrderWrong : ChangeSpec := { name := "waitsOrder", fn := fun _ => fun
  | [d] => { results := [.lit (.bool false)], args := [d] }
  | _ => none }
def WaitsOrderWrongFalsely : Prop := waitsOrderRow.holds Try.pinned (OpenSpec.ofChange waitsOrderWrong)

/-- 'stevedorelaw18.LockPlays': WHATEVER THE INPUT: true; the input reads as it did. -/
def lockPlaysSpec : ChangeSpec := { name := "lockPlays", fn := fun _ => fun
  | [d1, d2] => { results := [.lit (.bool true)], args := [d1, d2] }
  | _ => none }
def lockPlaysRow : OpenClaim := { program := "ytmdfkggflainbaa", sum := "4a007d501ca1fd0371a66a4322bc76e259ad8761c3d48728eaad31976f75bfe6", func := "stevedore/stevedorelaw18.LockPlays", spec := "lockPlays", unfollowed := true, recurses := true, plainKeys := false, apart := false }
def LockPlaysSaid : Prop := lockPlaysRow.holds Try.pinned (OpenSpec.ofChange lockPlaysSpec)

/-- ITS FALSE NEIGHBOUR: 'it returns false'. Refute it at one input. -/
def lockPlaysWrong : ChangeSpec := { name := "lockPlays", fn := fun _ => fun
  | [d1, d2] => { results := [.lit (.bool false)], args := [d1, d2] }
  | _ => none }
def LockPlaysWrongFalsely : Prop := lockPlaysRow.holds Try.pinned (OpenSpec.ofChange lockPlaysWrong)

/-- 'stevedorelaw18.WaitsPlay': WHATEVER THE INPUT: true; the input reads as it did. -/
def waitsPlaySpec : ChangeSpec := { name := "waitsPlay", fn := fun _ => fun
  | [d1, d2] => { results := [.lit (.bool true)], args := [d1, d2] }
  | _ => none }
def waitsPlayRow : OpenClaim := { program := "ytmdfkggflainbaa", sum := "4a007d501ca1fd0371a66a4322bc76e259ad8761c3d48728eaad31976f75bfe6", func := "stevedore/stevedorelaw18.WaitsPlay", spec := "waitsPlay", unfollowed := true, recurses := true, plainKeys := false, apart := false }
def WaitsPlaySaid : Prop := waitsPlayRow.holds Try.pinned (OpenSpec.ofChange waitsPlaySpec)

/-- ITS FALSE NEIGHBOUR: 'it returns false'. Refute it at one input. -/
def waitsPlayWrong : ChangeSpec := { name := "waitsPlay", fn := fun _ => fun
  | [d1, d2] => { results := [.lit (.bool false)], args := [d1, d2] }
  | _ => none }
def WaitsPlayWrongFalsely : Prop := waitsPlayRow.holds Try.pinned (OpenSpec.ofChange waitsPlayWrong)

/-- 'stevedorelaw18.LockNone': WHATEVER THE INPUT: true; the input reads as it did. -/
def lockNoneSpec : ChangeSpec := { name := "lockNone", fn := fun _ => fun
  | [d1, d2, d3] => { results := [.lit (.bool true)], args := [d1, d2, d3] }
  | _ => none }
def lockNoneRow : OpenClaim := { program := "ytmdfkggflainbaa", sum := "4a007d501ca1fd0371a66a4322bc76e259ad8761c3d48728eaad31976f75bfe6", func := "stevedore/stevedorelaw18.LockNone", spec := "lockNone", unfollowed := true, recurses := true, plainKeys := false, apart := false }
def LockNoneSaid : Prop := lockNoneRow.holds Try.pinned (OpenSpec.ofChange lockNoneSpec)

/-- ITS FALSE NEIGHBOUR: 'it returns false'. Refute it at one input. -/
def lockNoneWrong : ChangeSpec := { name := "lockNone", fn := fun _ => fun
  | [d1, d2, d3] => { results := [.lit (.bool false)], args := [d1, d2, d3] }
  | _ => none }
def LockNoneWrongFalsely : Prop := lockNoneRow.holds Try.pinned (OpenSpec.ofChange lockNoneWrong)

/-- 'stevedorelaw11.RoutePlays': WHATEVER THE INPUT: true; the input reads as it did. -/
def routePlaysSpec : ChangeSpec := { name := "routePlays", fn := fun _ => fun
  | [d] => { results := [.lit (.bool true)], args := [d] }
  | _ => none }
def routePlaysRow : OpenClaim := { program := "ytmdfkggflainbaa", sum := "4a007d501ca1fd0371a66a4322bc76e259ad8761c3d48728eaad31976f75bfe6", func := "stevedore/stevedorelaw11.RoutePlays", spec := "routePlays", unfollowed := true, recurses := true, plainKeys := false, apart := false }
def RoutePlaysSaid : Prop := routePlaysRow.holds Try.pinned (OpenSpec.ofChange routePlaysSpec)

/-- ITS FALSE NEIGHBOUR: 'it returns false'. Refute it at one input. -/
def routePlaysWrong : ChangeSpec := { name := "routePlays", fn := fun _ => fun
  | [d] => { results := [.lit (.bool false)], args := [d] }
  | _ => none }
def RoutePlaysWrongFalsely : Prop := routePlaysRow.holds Try.pinned (OpenSpec.ofChange routePlaysWrong)

/-- 'stevedorelaw11.RouteLongest': WHATEVER THE INPUT: true; the input reads as it did. -/
def routeLongestSpec : ChangeSpec := { name := "routeLongest", fn := fun _ => fun
  | [d1, d2] => { results := [.lit (.bool true)], args := [d1, d2] }
  | _ => none }
def routeLongestRow : OpenClaim := { program := "ytmdfkggflainbaa", sum := "4a007d501ca1fd0371a66a4322bc76e259ad8761c3d48728eaad31976f75bfe6", func := "stevedore/stevedorelaw11.RouteLongest", spec := "routeLongest", unfollowed := true, recurses := true, plainKeys := false, apart := false }
def RouteLongestSaid : Prop := routeLongestRow.holds Try.pinned (OpenSpec.ofChange routeLongestSpec)

/-- ITS FALSE NEIGHBOUR: 'it returns false'. Refute it at one input. -/
def routeLongestWrong : ChangeSpec := { name := "routeLongest", fn := fun _ => fun
  | [d1, d2] => { results := [.lit (.bool false)], args := [d1, d2] }
  | _ => none }
def RouteLongestWrongFalsely : Prop := routeLongestRow.holds Try.pinned (OpenSpec.ofChange routeLongestWrong)

/-- 'stevedorelaw11.RouteOrder': WHATEVER THE INPUT: true; the input reads as it did. -/
def routeOrderSpec : ChangeSpec := { name := "routeOrder", fn := fun _ => fun
  | [d1, d2, d3, d4] => { results := [.lit (.bool true)], args := [d1, d2, d3, d4] }
  | _ => none }
def routeOrderRow : OpenClaim := { program := "ytmdfkggflainbaa", sum := "4a007d501ca1fd0371a66a4322bc76e259ad8761c3d48728eaad31976f75bfe6", func := "stevedore/stevedorelaw11.RouteOrder", spec := "routeOrder", unfollowed := true, recurses := true, plainKeys := false, apart := false }
def RouteOrderSaid : Prop := routeOrderRow.holds Try.pinned (OpenSpec.ofChange routeOrderSpec)

/-- ITS FALSE NEIGHBOUR: 'it returns false'. Refute it at one input. -/
def routeOrderWrong : ChangeSpec := { name := "routeOrder", fn := fun _ => fun
  | [d1, d2, d3, d4] => { results := [.lit (.bool false)], args := [d1, d2, d3, d4] }
  | _ => none }
def RouteOrderWrongFalsely : Prop := routeOrderRow.holds Try.pinned (OpenSpec.ofChange routeOrderWrong)

/-- 'stevedorelaw11.RouteFull': WHATEVER THE INPUT: true; the input reads as it did. -/
def routeFullSpec : ChangeSpec := { name := "routeFull", fn := fun _ => fun
  | [d] => { results := [.lit (.bool true)], args := [d] }
  | _ => none }
def routeFullRow : OpenClaim := { program := "ytmdfkggflainbaa", sum := "4a007d501ca1fd0371a66a4322bc76e259ad8761c3d48728eaad31976f75bfe6", func := "stevedore/stevedorelaw11.RouteFull", spec := "routeFull", unfollowed := true, recurses := true, plainKeys := false, apart := false }
def RouteFullSaid : Prop := routeFullRow.holds Try.pinned (OpenSpec.ofChange routeFullSpec)

/-- ITS FALSE NEIGHBOUR: 'it returns false'. Refute it at one input. -/
def routeFullWrong : ChangeSpec := { name := "routeFull", fn := fun _ => fun
  | [d] => { results := [.lit (.bool false)], args := [d] }
  | _ => none }
def RouteFullWrongFalsely : Prop := routeFullRow.holds Try.pinned (OpenSpec.ofChange routeFullWrong)

/-- 'stevedorelaw11.RouteNil': WHATEVER THE INPUT: true; the input reads as it did. -/
def routeNilSpec : ChangeSpec := { name := "routeNil", fn := fun _ => fun
  | [d1, d2] => { results := [.lit (.bool true)], args := [d1, d2] }
  | _ => none }
def routeNilRow : OpenClaim := { program := "ytmdfkggflainbaa", sum := "4a007d501ca1fd0371a66a4322bc76e259ad8761c3d48728eaad31976f75bfe6", func := "stevedore/stevedorelaw11.RouteNil", spec := "routeNil", unfollowed := true, recurses := true, plainKeys := false, apart := false }
def RouteNilSaid : Prop := routeNilRow.holds Try.pinned (OpenSpec.ofChange routeNilSpec)

/-- ITS FALSE NEIGHBOUR: 'it returns false'. Refute it at one input. -/
def routeNilWrong : ChangeSpec := { name := "routeNil", fn := fun _ => fun
  | [d1, d2] => { results := [.lit (.bool false)], args := [d1, d2] }
  | _ => none }
def RouteNilWrongFalsely : Prop := routeNilRow.holds Try.pinned (OpenSpec.ofChange routeNilWrong)

/- THE SECOND FORM. 'bulk': how many values and letters a reading holds, each counted each time it is reached (what is shared counts as often as it is met; a slice's spare places count too). A statement '..UptoSaid' is the law's where the arguments, and the package variables that the reading takes, are together of bulk at most 1048576: NARROWER than '..Said'. Prove '..Said' where nothing that the law and all that it calls make is longer than what came in: it says more and counts as full. Else prove '..UptoSaid'. A law counts once. -/
mutual
def uptoBulk {H : Type} : DataW H → Nat
  | .lit (.string bytes) => bytes.length + 1
  | .lit _ => 1
  | .nil => 1
  | .ptr d => uptoBulk d + 1
  | .slice elems spare => uptoBulkAll elems + uptoBulkAll spare + 1
  | .agg parts => uptoBulkAll parts + 1
  | .iface _ d => uptoBulk d + 1
  | .map entries => uptoBulkEntries entries + 1
  | .held _ => 1
def uptoBulkAll {H : Type} : List (DataW H) → Nat
  | [] => 0
  | d :: r => uptoBulk d + uptoBulkAll r
def uptoBulkEntries {H : Type} : List (Lit × DataW H) → Nat
  | [] => 0
  | x :: r => uptoBulkEntry x + uptoBulkEntries r
def uptoBulkEntry {H : Type} : Lit × DataW H → Nat
  | (.string bytes, d) => bytes.length + uptoBulk d + 1
  | (_, d) => uptoBulk d + 1
 end
def uptoSmall : (H : Type) → List (DataW H) → Bool := fun _ ds => decide (uptoBulkAll ds ≤ 1048576)
def OpenSpec.upto (s : _root_.Go.ChangeSpec) : _root_.Go.OpenSpec := { _root_.Go.OpenSpec.ofChange s with cond := some uptoSmall }

/-- 'stevedorelaw18.LockOne', WHERE WHAT IT READS IS OF BULK AT MOST 1048576: true; the input reads as it did. -/
def lockOneUptoRow : OpenClaim := { program := "ytmdfkggflainbaa", sum := "4a007d501ca1fd0371a66a4322bc76e259ad8761c3d48728eaad31976f75bfe6", func := "stevedore/stevedorelaw18.LockOne", spec := "lockOne", unfollowed := true, recurses := true, plainKeys := false, apart := false, narrowed := true }
def LockOneUptoSaid : Prop := lockOneUptoRow.holds Try.pinned (OpenSpec.upto lockOneSpec)

/-- 'stevedorelaw18.WaitsOrder', WHERE WHAT IT READS IS OF BULK AT MOST 1048576: true; the input reads as it did. -/
def waitsOrderUptoRow : OpenClaim := { program := "ytmdfkggflainbaa", sum := "4a007d501ca1fd0371a66a4322bc76e259ad8761c3d48728eaad31976f75bfe6", func := "stevedore/stevedorelaw18.WaitsOrder", spec := "waitsOrder", unfollowed := true, recurses := true, plainKeys := false, apart := false, narrowed := true }
def WaitsOrderUptoSaid : Prop := waitsOrderUptoRow.holds Try.pinned (OpenSpec.upto waitsOrderSpec)

/-- 'stevedorelaw18.LockPlays', WHERE WHAT IT READS IS OF BULK AT MOST 1048576: true; the input reads as it did. -/
def lockPlaysUptoRow : OpenClaim := { program := "ytmdfkggflainbaa", sum := "4a007d501ca1fd0371a66a4322bc76e259ad8761c3d48728eaad31976f75bfe6", func := "stevedore/stevedorelaw18.LockPlays", spec := "lockPlays", unfollowed := true, recurses := true, plainKeys := false, apart := false, narrowed := true }
def LockPlaysUptoSaid : Prop := lockPlaysUptoRow.holds Try.pinned (OpenSpec.upto lockPlaysSpec)

/-- 'stevedorelaw18.WaitsPlay', WHERE WHAT IT READS IS OF BULK AT MOST 1048576: true; the input reads as it did. -/
def waitsPlayUptoRow : OpenClaim := { program := "ytmdfkggflainbaa", sum := "4a007d501ca1fd0371a66a4322bc76e259ad8761c3d48728eaad31976f75bfe6", func := "stevedore/stevedorelaw18.WaitsPlay", spec := "waitsPlay", unfollowed := true, recurses := true, plainKeys := false, apart := false, narrowed := true }
def WaitsPlayUptoSaid : Prop := waitsPlayUptoRow.holds Try.pinned (OpenSpec.upto waitsPlaySpec)

/-- 'stevedorelaw18.LockNone', WHERE WHAT IT READS IS OF BULK AT MOST 1048576: true; the input reads as it did. -/
def lockNoneUptoRow : OpenClaim := { program := "ytmdfkggflainbaa", sum := "4a007d501ca1fd0371a66a4322bc76e259ad8761c3d48728eaad31976f75bfe6", func := "stevedore/stevedorelaw18.LockNone", spec := "lockNone", unfollowed := true, recurses := true, plainKeys := false, apart := false, narrowed := true }
def LockNoneUptoSaid : Prop := lockNoneUptoRow.holds Try.pinned (OpenSpec.upto lockNoneSpec)

/-- 'stevedorelaw11.RoutePlays', WHERE WHAT IT READS IS OF BULK AT MOST 1048576: true; the input reads as it did. -/
def routePlaysUptoRow : OpenClaim := { program := "ytmdfkggflainbaa", sum := "4a007d501ca1fd0371a66a4322bc76e259ad8761c3d48728eaad31976f75bfe6", func := "stevedore/stevedorelaw11.RoutePlays", spec := "routePlays", unfollowed := true, recurses := true, plainKeys := false, apart := false, narrowed := true }
def RoutePlaysUptoSaid : Prop := routePlaysUptoRow.holds Try.pinned (OpenSpec.upto routePlaysSpec)

/-- 'stevedorelaw11.RouteLongest', WHERE WHAT IT READS IS OF BULK AT MOST 1048576: true; the input reads as it did. -/
def routeLongestUptoRow : OpenClaim := { program := "ytmdfkggflainbaa", sum := "4a007d501ca1fd0371a66a4322bc76e259ad8761c3d48728eaad31976f75bfe6", func := "stevedore/stevedorelaw11.RouteLongest", spec := "routeLongest", unfollowed := true, recurses := true, plainKeys := false, apart := false, narrowed := true }
def RouteLongestUptoSaid : Prop := routeLongestUptoRow.holds Try.pinned (OpenSpec.upto routeLongestSpec)

/-- 'stevedorelaw11.RouteOrder', WHERE WHAT IT READS IS OF BULK AT MOST 1048576: true; the input reads as it did. -/
def routeOrderUptoRow : OpenClaim := { program := "ytmdfkggflainbaa", sum := "4a007d501ca1fd0371a66a4322bc76e259ad8761c3d48728eaad31976f75bfe6", func := "stevedore/stevedorelaw11.RouteOrder", spec := "routeOrder", unfollowed := true, recurses := true, plainKeys := false, apart := false, narrowed := true }
def RouteOrderUptoSaid : Prop := routeOrderUptoRow.holds Try.pinned (OpenSpec.upto routeOrderSpec)

/-- 'stevedorelaw11.RouteFull', WHERE WHAT IT READS IS OF BULK AT MOST 1048576: true; the input reads as it did. -/
def routeFullUptoRow : OpenClaim := { program := "ytmdfkggflainbaa", sum := "4a007d501ca1fd0371a66a4322bc76e259ad8761c3d48728eaad31976f75bfe6", func := "stevedore/stevedorelaw11.RouteFull", spec := "routeFull", unfollowed := true, recurses := true, plainKeys := false, apart := false, narrowed := true }
def RouteFullUptoSaid : Prop := routeFullUptoRow.holds Try.pinned (OpenSpec.upto routeFullSpec)

/-- 'stevedorelaw11.RouteNil', WHERE WHAT IT READS IS OF BULK AT MOST 1048576: true; the input reads as it did. -/
def routeNilUptoRow : OpenClaim := { program := "ytmdfkggflainbaa", sum := "4a007d501ca1fd0371a66a4322bc76e259ad8761c3d48728eaad31976f75bfe6", func := "stevedore/stevedorelaw11.RouteNil", spec := "routeNil", unfollowed := true, recurses := true, plainKeys := false, apart := false, narrowed := true }
def RouteNilUptoSaid : Prop := routeNilUptoRow.holds Try.pinned (OpenSpec.upto routeNilSpec)

end Rows
end Go.Proofs.Ytmdfkggflainbaa
