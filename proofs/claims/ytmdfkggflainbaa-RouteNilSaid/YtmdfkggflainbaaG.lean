/- What the evaluator is told of this program: the structs that are compared, and how many blocks calls lay. -/
import Derived.Test.YtmdfkggflainbaaProg
namespace Go.Proofs.Ytmdfkggflainbaa.VM
def eqsT : List Nat := [86, 130]
def newsT (f : Nat) : Nat :=
  if f = 14 then 2 else if f = 21 then 2 else if f = 39 then 2 else
  if f = 47 then 1 else if f = 56 then 1 else if f = 54 then 1 else
  if f = 51 then 3 else if f = 28 then 1 else if f = 17 then 1 else
  if f = 53 then 2 else if f = 52 then 2 else if f = 72 then 2 else
  if f = 29 then 1 else if f = 18 then 1 else
  if f = 34 then 1 else if f = 32 then 1 else if f = 30 then 2 else
  if f = 41 then 1 else if f = 43 then 1 else
  if f = 84 then 1 else if f = 64 then 1 else if f = 66 then 1 else
  if f = 65 then 1 else if f = 76 then 1 else 0
end Go.Proofs.Ytmdfkggflainbaa.VM
