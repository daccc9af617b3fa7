/-
  Chapter 13: count.wrong and count.paths, together.
-/
import Derived.Test.YtnohcdpnnhmpfaaGreatDoorK31N
import Derived.Test.YtnohcdpnnhmpfaaGreatDoorK31X
