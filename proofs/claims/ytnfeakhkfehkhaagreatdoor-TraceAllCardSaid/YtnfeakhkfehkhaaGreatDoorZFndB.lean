/-
  How the law draws a truth: bounds. Conditions: none.
-/
import Derived.Test.YtnfeakhkfehkhaaGreatDoorZFndA
set_option linter.unusedSimpArgs false
set_option linter.unusedVariables false
namespace Go.Proofs.YtnfeakhkfehkhaaGreatDoor
open Go.RowKit
structure PBd (p:Pro) (N:Nat):Prop where
 len:PLen p N
 pos:1<=N
 nev:p.never.length<=1000
 has:∀i,0<=Qem p i/\Qem p i<=100000
 need:∀i,0<=QaM p i/\QaM p i<=100000
theorem QMU {f:Nat->Int} (h:∀i,0<=f i/\f i<=100000):∀n,0<=QY n f/\QY n f<=100000*n
 | 0=>⟨Int.le_refl _,Int.le_refl _⟩
 | n+1=>by
  have h1:=QMU h n;have h2:=h n;rw[QY]; omega
noncomputable instance (p:Pro) (N:Nat):Decidable (PBd p N):=Classical.propDecidable _
end Go.Proofs.YtnfeakhkfehkhaaGreatDoor
