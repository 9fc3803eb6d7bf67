/-
  must and number of the wax chapter: what they return, and when they panic. Conditions: none.
-/
import Derived.Test.YticoemblgkemiaaGreatDoorZWxShp
import Derived.Test.YticoemblgkemiaaGreatDoorZAmF
set_option linter.unusedSimpArgs false
set_option linter.unusedVariables false
namespace Go.Proofs.YticoemblgkemiaaGreatDoor
open Go.RowKit Go.Lib
def s74:List D→Option D:=fun ds=>match ds with | [.v (.bool true)]=>some (.tup []) | _=>none
def p74:List D→Option Value:=fun ds=>match ds with | [.v (.bool false)]=>some Qlo | _=>none
theorem QJj (xs:Array Value) (w:World):(callFunc 154 xs).run Tryz.prog w= .ok (.enter 154 xs) w:=by kernel_rfl
theorem QYN (xs:Array Value) (w:World):(callFunc 200 xs).run Tryz.prog w= .ok (.enter 200 xs) w:=by kernel_rfl
theorem QTv (w:World):Calls Tryz.prog 154 #[.bool true] w fun e w'=>e= .returned (.tuple #[])∧w'=w:=by
 go_enter Tryz.func154,Tryz.ntmps154
 go_wp2
 go_end0
 exact⟨rfl,rfl⟩
theorem QUi (w:World):Calls Tryz.prog 154 #[.bool false] w fun e w'=>e= .panicked [{ v:=Qlo,recovered:=false}]∧w'=w:=by
 go_enter Tryz.func154,Tryz.ntmps154
 go_wp2
 exact⟨rfl,rfl,rfl⟩
theorem ok74:∀ds d,s74 ds=some d→PureC Tryz.prog 154 ds d:=by
 intro ds d h;unfold s74 at h;split at h
 ·cases h;intro m w vs hm hG hr;simp only[RelL,Rel]at hr;obtain⟨v,t,rfl,rfl,rfl⟩:=hr;refine(QTv w).mono ?_;rintro e w' ⟨rfl,rfl⟩;exact⟨_,fun _ _=>False,rfl,Below.refl _ _,fun b o h=>h.elim,by simp only[Rel]; exact⟨[],rfl,by simp[RelL]⟩⟩
 ·cases h
theorem po74:∀ds v,p74 ds=some v→Qsb Tryz.prog 154 ds v:=by
 intro ds d h;unfold p74 at h;split at h
 ·cases h;intro m w vs hm hG hr;simp only[RelL,Rel]at hr;obtain⟨v,t,rfl,rfl,rfl⟩:=hr;refine(QUi w).mono ?_;rintro e w' ⟨rfl,rfl⟩;exact⟨rfl,Below.refl _ _⟩
 ·cases h
def QQs (s:ByteArray):Option Int:=match Lib.atoiAll s.data.toList with
 | .ok n=>some n
 | _=>none
theorem QWc {m:Nat→Nat→Prop} {w:World} (h:GlobIn m w):(∃t p,w.cell? ⟨2,0,none⟩=some (.iface t p))∧∃t p,w.cell? ⟨3,0,none⟩=some (.iface t p):=by
 obtain⟨_,cs,ty,fr,h1,_,t,p,rfl⟩:=h _ (List.mem_cons_of_mem _ (List.mem_cons_of_mem _ (List.mem_cons_self ..)));obtain⟨_,cs',ty',fr',h1',_,t',p',rfl⟩:=h _ (List.mem_cons_of_mem _ (List.mem_cons_of_mem _ (List.mem_cons_of_mem _ (List.mem_cons_self ..))));exact⟨⟨t,p,by simp[World.cell?,h1]⟩,t',p',by simp[World.cell?,h1']⟩
theorem QV9 (s:ByteArray) (hs:s.size≤100000) {m:Nat→Nat→Prop} (w:World) (hG:GlobIn m w):Calls Tryz.prog 200 #[.string s] w fun e w'=>Below w.heap.size w w'∧((∃n,Lib.atoiAll s.data.toList= .ok n∧e= .returned (.tuple #[.int .i64 n,.nilIface]))∨((∀n,Lib.atoiAll s.data.toList≠ .ok n)∧∃k t p,e= .returned (.tuple #[.int .i64 k,.iface t p]))):=by
 obtain⟨⟨t2,QR9,h2⟩,t3,QUb,h3⟩:=QWc hG;cases h:Lib.atoiAll s.data.toList
 ·rename_i n;refine(Tryz.strconv_Atoi_ok s (by omega) n h w).mono ?_
  rintro e w' ⟨rfl,hw⟩;refine⟨?_,.inl ⟨n,rfl,rfl⟩⟩;rcases hw with rfl | ⟨t,rfl⟩
  ·exact Below.refl _ _
  ·exact Lib.bytesWorld_below w 5 t
 ·refine(Tryz.strconv_Atoi_syntax s (by omega) h _ w h2 (.inr ⟨_,_,rfl⟩)).mono ?_
  rintro e w' ⟨N,rfl,_,_,hb⟩;exact⟨hb,.inr ⟨(fun n e=>by cases e),_,_,_,rfl⟩⟩
 ·refine(Tryz.strconv_Atoi_range s (by omega) h _ w h3 (.inr ⟨_,_,rfl⟩)).mono ?_
  rintro e w' ⟨N,rfl,_,_,hb⟩;exact⟨hb,.inr ⟨(fun n e=>by cases e),_,_,_,rfl⟩⟩
def QUB (s:ByteArray) (e:Ending):Prop:=match QQs s with | some n=>e= .returned (.int .i64 n) | none=>e= .panicked [{ v:=Qlo,recovered:=false}]
theorem QUl {s:ByteArray} {n:Int} (h1:Lib.atoiAll s.data.toList= .ok n):QQs s=some n:=by unfold QQs; rw[h1]
theorem QV0 {s:ByteArray} (h1:∀n,Lib.atoiAll s.data.toList≠ .ok n):QQs s=none:=by
 unfold QQs;split
 ·rename_i n h; exact absurd h (h1 n)
 ·rfl
set_option maxHeartbeats 1000000 in
set_option maxRecDepth 100000 in
theorem QUJ (s:ByteArray) (hs:s.size≤100000) {m:Nat→Nat→Prop} (w:World) (hm:∀b o,m b o→b < w.heap.size) (hG:GlobIn m w):Calls Tryz.prog 155 #[.string s] w fun e w'=>Below w.heap.size w w'∧QUB s e:=by
 have e97:=QYN;have e74:=QJj
 go_enter Tryz.func155,Tryz.ntmps155
 go_wp2_with (go_at_fn 200; refine(QV9 s hs w hG).mono ?_)
 rintro e w1 ⟨hb1,⟨n,hn,rfl⟩ | ⟨hn,k,t,p,rfl⟩⟩
 ·have hnum:=QUl hn
  go_wp2_with (go_at_fn 154; refine(QTv _).mono ?_)
  rintro e w2 ⟨rfl,rfl⟩
  go_wp2
  go_ret
  exact⟨hb1,by unfold QUB; rw[hnum]; rfl⟩
 ·have hnum:=QV0 hn
  go_wp2_with (go_at_fn 154; refine(QUi _).mono ?_)
  rintro e w2 ⟨rfl,rfl⟩;exact⟨rfl,hb1,by unfold QUB; rw[hnum]⟩
def QSR:List D→Option D:=sp1 Qoe QaY fun s=>if s.size≤100000 then QQs s else none
def p75:List D→Option Value:=fun ds=>match ds with | [.v (.string s)]=>if s.size≤100000∧QQs s=none then some Qlo else none | _=>none
theorem QVl (xs:Array Value) (w:World):(callFunc 155 xs).run Tryz.prog w= .ok (.enter 155 xs) w:=by kernel_rfl
theorem Q1e:∀ds d,QSR ds=some d→PureC Tryz.prog 155 ds d:=Qbr fun s n hr=>by
 split at hr
 ·rename_i hs;intro m w vs hm hG hr';simp only[RelL,Rel,Qdr]at hr';obtain⟨v,t,rfl,rfl,rfl⟩:=hr';refine(QUJ s hs w hm hG).mono ?_;rintro e w' ⟨hb,h⟩;unfold QUB at h;rw[hr]at h;exact⟨_,fun _ _=>False,h,hb,fun b o h=>h.elim,by rw[QmH]; simp only[Rel]⟩
 ·cases hr
theorem po75:∀ds v,p75 ds=some v→Qsb Tryz.prog 155 ds v:=by
 intro ds d h;unfold p75 at h;split at h
 ·rename_i s;split at h
  ·rename_i hc;cases h;obtain⟨hs,hn⟩:=hc;intro m w vs hm hG hr;simp only[RelL,Rel]at hr;obtain⟨v,t,rfl,rfl,rfl⟩:=hr;refine(QUJ s hs w hm hG).mono ?_;rintro e w' ⟨hb,h⟩;unfold QUB at h;rw[hn]at h;exact⟨h,hb⟩
  ·cases h
 ·cases h
theorem Q2I:Qql Tryz.prog (Qlr [(154,p74),(155,p75)]):=Qtq (Qtq QEE QVl po75) QJj po74
end Go.Proofs.YticoemblgkemiaaGreatDoor
