/-
  Chapter 13, for Pairs: count.wrong. Printed by tools/genwrong.py.
-/
import Derived.Test.YtnohcdpnnhmpfaaGreatDoorK30
import Derived.Lib.AppendZerosOnto
import Derived.Lib.Walk
import Derived.Lib.SliceRun
set_option linter.unusedVariables false
set_option linter.unusedSimpArgs false
namespace Go.Proofs.YtnohcdpnnhmpfaaGreatDoor
open Go.RowKit ML FM AU CT
def badR(n:Nat)(p:Value×List Int):Bool:=p.2.length !=n
def badI(x:Int):Bool:=decide (x<0)||decide (1099511627776<x)
def GrowGot(w:World)(e:Ending)(w':World):Prop:= ∃v,e=.returned v∧w'.ownsRow w.heap.size 3 1 v 0 []∧Below w.heap.size w w'
end Go.Proofs.YtnohcdpnnhmpfaaGreatDoor
