/-
  What the laws of the trace chapter that do not compare have in common. Conditions: none.
-/
import Derived.Test.YtnfeakhkfehkhaaGreatDoorZLawA
set_option linter.unusedSimpArgs false
set_option linter.unusedVariables false
namespace Go.Proofs.YtnfeakhkfehkhaaGreatDoor
open Go.RowKit
def QLK (n:Int):Prop:=0<=n/\n<=255
instance (n:Int):Decidable (QLK n):=inferInstanceAs (Decidable (_/\_))
noncomputable def QMG:List (Nat×(List D->Option D)):=(36,s36)::(39,s39)::(43,s43)::(24,s24)::QGa
theorem QN8:Qay Tryz.prog (Qas QMG):=Ql (Ql (Ql (Ql QRJ QEl ok24) QNS ok43) QNp ok39) QNU ok36
theorem QNl {b:List Bat} (h:QcC b):s36 [.sl 5 (b.map QO.enc)]=some (DB (QLq b)):=by
 simp only[s36,sp1,QR];rw[if_pos h.1]; rfl
theorem QNn {l:List Int} (h:l.length < 1000000) (n:Int):s39 [.sl 1 (l.map Qt.enc),DI n]=some (DB (QwI l n)):=by
 simp only[s39,sp2,QQ,Qam];rw[if_pos (by omega)]; rfl
theorem QLJ {b:List Bat} (h:QLq b=true):ValidB b/\b.length<=8/\1<=b.length/\∀i:Nat,i < b.length->QbH b i=0:=by
 unfold QLq at h;have h0:(Q5 b).2.2=0:=beq_iff_eq.1 h;have hv:=(Qbl b).1 h0;refine⟨hv,hv.ok.le,hv.ok.pos,λi hi=>?_⟩;unfold QbH;rw[if_pos h0,if_pos (Qau.2 (by omega))]
theorem QMw (f:Nat->Bool) (n k:Nat):QwI (Qc6 f n) k=(decide (k < n)&&f k):=by
 rw[Bool.eq_iff_iff];unfold QwI;rw[Zy,Za,decide_eq_true_eq];constructor
 .rintro⟨x,hx,he⟩;obtain⟨a,rfl,ha,hf⟩:=QMv.1 hx;have:a=k:=by have:=beq_iff_eq.1 he; omega
  subst this; exact⟨ha,hf⟩
 .rintro⟨h1,h2⟩;exact⟨(k:Int),QMv.2 ⟨k,rfl,h1,h2⟩,by simp⟩
theorem QM3 {b:List Bat} (h:QLq b=true) {i:Nat} (hi:i < b.length):QeU b i=(Qc6 (comesM b i) b.length,Qc6 (comesY b i) b.length,0):=by
 unfold QeU;rw[if_pos ((QLJ h).2.2.2 i hi),Int.toNat_natCast]
end Go.Proofs.YtnfeakhkfehkhaaGreatDoor
