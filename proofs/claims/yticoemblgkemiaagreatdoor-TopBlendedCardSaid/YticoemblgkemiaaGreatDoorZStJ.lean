/-
  The program's judge of bags of stubs: what it computes. Conditions: a valid sort, valid bags.
-/
import Derived.Test.YticoemblgkemiaaGreatDoorZTrB
import Derived.Test.YticoemblgkemiaaGreatDoorZTys
set_option linter.unusedSimpArgs false
set_option linter.unusedVariables false
namespace Go.Proofs.YticoemblgkemiaaGreatDoor
open Go.RowKit
structure Srt where
 kinds:Int
 fo:Int
structure Bag where
 lo:Int
 hi:Int
 kinds:Int
deriving Inhabited
def Qo3:Row Srt:=⟨2,fun x=>[DI x.kinds,DI x.fo],fun d=>match d with | [.v (.int .i64 a0),.v (.int .i64 a1)]=>some ⟨a0,a1⟩ | _=>none,fun _=>rfl,fun d x h=>by
 split at h
 ·cases h; exact LImp.refl _
 ·cases h⟩
def Qu9 (s:Srt) (b:Bag):Bool:=bits .andNot .i64 b.kinds s.kinds != 0
def QzG (s:Srt) (b:Bag):Bool:=bits .and .i64 b.kinds s.kinds != 0
inductive Fr where
 | f (s:Srt)
 | o (s:Srt)
def Fr.is:Fr→Bag→Bool
 | .f s,b=>Qu9 s b
 | .o s,b=>!QzG s b
def Fr.enc:Fr→D
 | .f s=> .fn 145 [.agg (Qo3.enc s)] []
 | .o s=> .fn 62 [] [.dat 2 [Qo3.enc s] 0 0]
def QtG (b:Bag):Prop:=0≤b.lo∧b.lo≤b.hi∧b.hi≤1000000∧1≤b.kinds∧b.kinds≤255
def Qe9 (l:List Bag):Prop:=l.length≤10∧∀b∈l,QtG b
def Qj3 (s:Srt):Prop:=1≤s.kinds∧s.kinds≤255∧0≤s.fo∧s.fo≤1000
noncomputable instance (l:List Bag):Decidable (Qe9 l):=Classical.propDecidable _
instance (s:Srt):Decidable (Qj3 s):=inferInstanceAs (Decidable (_∧_))
instance (b:Bag):Decidable (QtG b):=inferInstanceAs (Decidable (_∧_))
end Go.Proofs.YticoemblgkemiaaGreatDoor
namespace Go.Proofs.YticoemblgkemiaaGreatDoor
open Go.RowKit
end Go.Proofs.YticoemblgkemiaaGreatDoor
