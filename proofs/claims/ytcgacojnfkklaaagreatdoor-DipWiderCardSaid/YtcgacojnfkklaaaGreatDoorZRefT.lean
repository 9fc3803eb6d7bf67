/-
  Reference functions of the dip chapter: Read. Conditions: none.
-/
import Derived.Test.YtcgacojnfkklaaaGreatDoorZRefS
namespace Go.Proofs.YtcgacojnfkklaaaGreatDoor
open Go.RowKit
set_option linter.unusedSimpArgs false
set_option linter.unusedVariables false
def lineD (x : Dsh) (w : List ByteArray) : Nat → Dip
  | 0 => ⟨-1, 0, 0, ((w.length : Int) == 4)⟩
  | k + 1 => if ((x.baths.getD k default).name.toList == (w.getD 0 default).toList) = true then ⟨k, numV (w.getD 1 default), numV (w.getD 2 default), ((w.length : Int) == 4)⟩ else lineD x w k
def parseL (x : Dsh) (line : ByteArray) : Dip := if 3 ≤ (splitV line 32).length then lineD x (splitV line 32) x.baths.length else lineD x (splitV line 32) 0
def planR (x : Dsh) (lines : List ByteArray) : Nat → List Dip
  | 0 => []
  | k + 1 => planR x lines k ++ [parseL x (lines.getD k default)]
def candR (x : Dsh) (text : ByteArray) : List Dip := planR x (splitV text 10) ((splitV text 10).length - 1)
def readR (x : Dsh) (text : ByteArray) : List Dip × Int :=
  if ¬ (dchk x).2.2 = 0 then ([], (dchk x).2.2) else if 2000 < text.size then ([], 3) else
  if planE x (candR x text) = 0 ∧ (textV x (candR x text)).toList = text.toList then (candR x text, 0) else ([], 6)
end Go.Proofs.YtcgacojnfkklaaaGreatDoor
