/-
  Plain laws of the rows that do not compare: mixtures, sets, parts. No walk here. Conditions: none.
-/
import Derived.Test.YticoemblgkemiaaGreatDoorZWxAwake
set_option linter.unusedSimpArgs false
set_option linter.unusedVariables false
namespace Go.Proofs.YticoemblgkemiaaGreatDoor
open Go.RowKit
theorem Q6e {x:Tbl} {e:Int} {a b:Nat} (h0:e=0) (ha:a < x.kinds.length) (hb:b < x.kinds.length) (hab:a≠b):QXA x e a b=0:=by
 unfold QXA;rw[if_neg (by omega),Qal.2 (by omega),Qal.2 (by omega),if_neg (by simp),if_neg (by omega)]
theorem Q4J {x:Tbl} {l:List Int} (hR:okR x l) {a b:Nat} (ha:a < x.kinds.length) (hb:b < x.kinds.length) (hab:a≠b):(Q4N x l a b=(⟨0,0⟩,9)∧∀n,0≤n→n≤1000→¬QQ9 x l a b n=true)∨∃s:Spn,Q4N x l a b=(s,0)∧(0≤s.lo∧s.lo≤s.hi∧s.hi≤1000)∧∀n,(s.lo≤n∧n≤s.hi)↔(0≤n∧n≤1000)∧QQ9 x l a b n=true:=by
 have h0:=Q6e hR ha hb hab;have hm:Q4N x l a b=if(QRc x l a b 0 1000).2 then((QRc x l a b 0 1000).1,0)else(⟨0,0⟩,9):=by
  unfold Q4N;rw[if_neg (by simp[h0])]
  simp only[Int.toNat_natCast]
 rw[hm];rcases QX5 x l a b 0 1000 with⟨h1,h2,h3⟩ | ⟨h1,h2⟩
 ·refine .inr ⟨QRU x l a b 0 1000,by rw[h1,if_pos rfl,h2],?_,fun n=>QUa⟩
  have q1:=(QUa (x:=x) (l:=l) (a:=a) (b:=b) (lo:=0) (hi:=1000)).1 ⟨Int.le_refl _,h3⟩;have q2:=(QUa (x:=x) (l:=l) (a:=a) (b:=b) (lo:=0) (hi:=1000)).1 ⟨h3,Int.le_refl _⟩;omega
 ·refine .inl ⟨by rw[h1]; rfl,fun n n0 n1 q=>?_⟩
  have:=QUa.2 ⟨⟨n0,n1⟩,q⟩;unfold inS at this;omega
end Go.Proofs.YticoemblgkemiaaGreatDoor
