/-
  The program's Read: the call that takes a panic back. Conditions: none.
-/
import Derived.Test.YticoemblgkemiaaGreatDoorZWxPrN
set_option linter.unusedSimpArgs false
set_option linter.unusedVariables false
namespace Go.Proofs.YticoemblgkemiaaGreatDoor
open Go.RowKit Go.Lib
def Q2D (r:Nat):List (Nat×Option Nat):=match r with
 | 0=>kpn [0,1,2]
 | 1=>kpn [0,1,2,5]
 | 2=>kpn [0,1]
 | _=>[]
def QDm (b2 b3:Nat):Nat→Option Nat:=fun i=>if i=2 then some b2 else if i=3 then some b3 else none
theorem QIR (xs:Array Value) (w:World):(callFunc 152 xs).run Tryz.prog w= .ok (.enter 152 xs) w:=by kernel_rfl
theorem Q1x (QR9 QUb:Value) (w:World):CallsD Tryz.prog 152 #[QR9,QUb] .returning w fun e u' w'=>e= .returned (.tuple #[])∧u'= .returning∧w'=w:=by
 refine callsD_of_wpS Tryz.func152 rfl fun c₀ cs hu=>?_;apply wpS_seq;apply wpS_region;simp[wpOpsS,go_sem,recoverD,hu,Tryz.ntmps152,Exit.thenS];refine wpS_of_wp ?_
 go_wp2
 refine⟨rfl,.returning,by cases c₀; simp_all,.tuple #[],results_none rfl _ _ _,rfl,rfl,rfl⟩
set_option maxRecDepth 100000 in
theorem Q0n {m:Nat→Nat→Prop} {W:World} {b2 b3:Nat} {l:List Deferred} {g:Gh} {σ:St} {a:Act} {w:World} {x2 y2 z2 x3:X} (I:Inv 110 m (QnT W (QDm b2 b3) l) g σ a w) (hl:a.defers=l) (t2:Qt σ.tmps 2=some (.loc 2 0)) (t3:Qt σ.tmps 3=some (.loc 3 0)) (hx2:Qt σ.boxes 2=some [x2,y2,z2]) (hx3:Qt σ.boxes 3=some [x3]):
  CallsD Tryz.prog 152 #[.pointer (some ⟨b2,0,none⟩),.pointer (some ⟨b3,0,none⟩)] (.panicking [{ v:=Qlo,recovered:=false}]) w fun e u w'=>e= .returned (.tuple #[])∧u= .panicking [{ v:=Qlo,recovered:=true}]∧∃g',Inv 110 m (QnT W (QDm b2 b3) l) g' ⟨[(2,.loc 2 0),(3,.loc 3 0)],[(2,[.d (.sl 0 []),.d (.sl 0 []),.d (DI 0)]),(3,[.d (DI 6)])],[],[]⟩ a w':=by
 have o2:g.box 2=some b2:=I.out 2 b2 rfl;have o3:g.box 3=some b3:=I.out 3 b3 rfl;have QR9:a.tmps.getD 2 undef= .pointer (some ⟨b2,0,none⟩):=by
  obtain⟨blk,h1,h2⟩:=I.tmps 2 _ t2;rw[o2]at h1; cases h1; exact h2
 have QUb:a.tmps.getD 3 undef= .pointer (some ⟨b3,0,none⟩):=by
  obtain⟨blk,h1,h2⟩:=I.tmps 3 _ t3;rw[o3]at h1; cases h1; exact h2
 refine callsD_of_wpS Tryz.func152 rfl fun c₀ cs hu=>?_;apply wpS_seq;apply wpS_region;simp[wpOpsS,go_sem,recoverD,hu,Tryz.ntmps152,Exit.thenS];simp only[Qlo];refine wpS_of_wp ?_
 go_wp2_with fail
 refine(wpIn_wide (n:=0)).1 ?_;refine Qdk (QP1 Qs 9 Q2D []) (by kernel_rfl) (by kernel_rfl) ((I.bare [(2,3),(3,1)] (by
  intro p hp;simp only[List.mem_cons,List.not_mem_nil,or_false]at hp;rcases hp with rfl | rfl
  ·exact⟨_,hx2,rfl⟩
  ·exact⟨_,hx3,rfl⟩)).reframe (N2:=9) (l2:=[]) (T:=[(0,.loc 2 0),(1,.loc 3 0),(2,.d (.v (.iface 29 (.int .i64 6))))]) rfl rfl ?_) (QIS (by kernel_rfl)) ?_
 ·intro t x hx;simp only[Qt]at hx;split at hx
  ·rename_i e; cases hx; subst e; exact⟨b2,o2,rfl⟩
  ·split at hx
   ·rename_i e; cases hx; subst e; exact⟨b3,o3,rfl⟩
   ·split at hx
    ·rename_i e; cases hx; subst e;simp only[RelX,Rel];rfl
    ·cases hx
 ·simp[Q2D,QG];intro g' a' w' I';have hd:a'.defers=[]:=I'.noMark (c:=QUR [] 9 Q2D []) (fun h=>h);have o2':g'.box 2=some b2:=I'.out 2 b2 rfl;have o3':g'.box 3=some b3:=I'.out 3 b3 rfl;refine⟨hd,.panicking [{ v:= .iface 29 (.int .i64 6),recovered:=true}],rfl,.tuple #[],results_none rfl _ _ _,rfl,rfl,g',?_⟩;refine I'.reframe (N2:=110) (l2:=l) (T:=[(2,.loc 2 0),(3,.loc 3 0)]) I.size hl fun t x hx=>?_;simp only[Qt]at hx;split at hx
  ·rename_i e; cases hx; subst e; exact⟨b2,o2',QR9⟩
  ·split at hx
   ·rename_i e; cases hx; subst e; exact⟨b3,o3',QUb⟩
   ·cases hx
end Go.Proofs.YticoemblgkemiaaGreatDoor
