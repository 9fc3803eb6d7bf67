/-
  TraceFound: when a lost card is found, whatever it says. Conditions: none.
-/
import Derived.Test.YtnfeakhkfehkhaaGreatDoorZLaw8
set_option linter.unusedSimpArgs false
set_option linter.unusedVariables false
namespace Go.Proofs.YtnfeakhkfehkhaaGreatDoor
open Go.RowKit
def QPd (r:Nat):List (Nat×Option Nat):=match r with
 | 0=>kpn [0,2,4]
 | 1=>kpn [0,2,4,29]
 | 2=>[(6,none)]
 | 3=>kpn [0,2,4,7]
 | 4=>kpn [0,2,4,8]
 | 5=>kpn [0,2,4,8,9]
 | 6=>kpn [0,4,9]
 | 7=>kpn [0,9,10]
 | 8=>kpn [0,9,10,11,12,13]
 | 9=>kpn [0,9,10,11,12,13,14,15,16]
 | 10=>kpn [9,10,11,12,13,14,15,16,17,18]
 | 11=>kpn [11,12,13,14,15,16,17,18,19,20]
 | 12=>[(6,none)]
 | _=>[]
theorem QPh {b:Nat} (j:Nat):QfB [] b j=none:=rfl
theorem QO6 (L:List Bat) (m b i:Nat) (av nw:List Nat):Qaw [] b i (QLh L m) av nw=(QLh L m,av,nw):=QNj QPh L m i av nw
theorem QO7 {L:List Bat} {i:Nat} (h:i < L.length) (m:Nat) (x:Bat):(QLh L m).take (i*5)++((QO.enc x).map X.d++(QLh L m).drop (i*5+5))=QLh (L.set i x) m:=by
 obtain⟨P,Q,h1,_,_,h2,h3⟩:=QLG h m;have hl:((QO.enc L[i]).map X.d).length=5:=by simp[Qh]
 rw[h3,h2,List.take_append,h1,List.take_of_length_le (by omega),Nat.sub_self,List.take_zero,List.append_nil,List.drop_append,h1,List.drop_eq_nil_of_le (by omega),show i*5+5 - i*5=5 by omega,List.drop_append_of_le_length (by omega),List.drop_of_length_le (by omega)]
 simp
theorem QPf {b:List Bat} (h:b.length<=8):s46 [.sl 5 (b.map QO.enc)]=some (.sl 1 ((QU b).map Qt.enc)):=by
 simp only[s46,sp1,QR];rw[if_pos h]; rfl
theorem QO8 {b:List Bat} (h:ValidB b) {g:Nat->Nat->Int} (hg:Tru (Qaa b) g) (C:Nat->Bool) {i:Nat} (hi:i < b.length):(Qj7 b i).lo<=(Qj7 (QLs b g C) i).lo/\(Qj7 (QLs b g C) i).hi<=(Qj7 b i).hi/\(Qj7 (QLs b g C) i).lo<=(Qj7 (QLs b g C) i).hi:=by
 have hV:=QMF (C:=C) h hg;have hi':i < (QLs b g C).length:=by rw[QLi]; exact hi
 have h8:=h.ok.le;obtain⟨⟨k1,t1,e1⟩,⟨k2,t2,e2⟩⟩:=Quk hV hi';have u1:=QNt h (QOZ h hg t1) hi;have u2:=QNt h (QOZ h hg t2) hi;have u3:=QNt hV t1 hi';rw[<-QO3 h hg t1 (by omega)]at u1
 rw[<-QO3 h hg t2 (by omega)]at u2
 omega
noncomputable def QO1:List (Nat×(List D->Option D)):=(37,s37)::(46,s46)::QMG
theorem QPe:Qay Tryz.prog (Qas QO1):=Ql (Ql QN8 QtU QHU) QNX ok37
noncomputable def s13:List D->Option D:=sp3 (Qy QO) (QeC QOi) (Qy (rK .u32)) QaI λb w y=>if QcC b/\QLK w.a/\QLK w.b/\QLS y then some true else none
set_option maxHeartbeats 8000000 in
theorem ok13:∀ds d,s13 ds=some d->PureC Tryz.prog 13 ds d:=QcG λb w y r hr=>by
 split at hr
 .rename_i hc;obtain⟨hs,hwa,nP,hy⟩:=hc;cases hr;have cS:=QE QPe 134 QPd [];refine QdD Tryz.func13 rfl rfl (Zb rfl) λm w0 a I tV=>?_;have fin:∀(bs:List (Nat×List X)) (tk:List Nat) (mp:List (Nat×(Nat×List (Value×Value)))) g' a' w',Inv 134 m (Qdz w0 []) g' ⟨[(6,.d (DB true))],bs,tk,mp⟩ a' w'->bodyPostD Tryz.prog Tryz.f13 (RetR m w0 (DB true)) .ret a' w':=by
   intro bs tk mp g' a' w' I';refine Qim cS I' (r:=[DB true]) ?_ rfl;rw[Tryz.results13]; simp
  refine QgG cS 3 _ rfl (by kernel_rfl) (by kernel_rfl) (λ_ _=>rfl) _ _ _ _ I ?_
  have zO:=QNl hs;cases hv:QLq b with
  | false=>
   rw[hv]at zO;simp[QeQ,QPd,QO1,QMG,QGa,s24,Qe,QOb,QL3,zO,QT];exact λg' a' w' I'=>fin _ _ _ g' a' w' I'
  | true=>
   rw[hv]at zO;obtain⟨hV,h8,h1,hask⟩:=QLJ hv;have e46:=QPf h8;by_cases hl0:(Qq b).length=0
   .have hl0':QU b=[]:=by
     unfold QU;rw[List.length_eq_zero_iff.1 hl0]; rfl
    rw[hl0']at e46;simp[QeQ,QPd,QO1,QMG,QGa,s24,Qe,QOb,QL3,zO,e46,QT];exact λg' a' w' I'=>fin _ _ _ g' a' w' I'
   .have hLl:(QU b).length=(Qq b).length:=by simp[QU]
    have tJ:=hV.lost;obtain⟨q,hq,tq,wq,wq2⟩:=QML hwa (n:=(QU b).length) (by omega) (by omega)
    obtain⟨i,dC,ti,wi,wi2⟩:=QML nP (n:=b.length) (by omega) (by omega)
    have hqN:q < (Qq b).length:=by omega
    have zI:(q:Int) < ((QU b).length:Int):=by omega
    have hLq:(QU b)[q]=(((Qq b)[q]:Nat):Int):=by simp[QU]
    have hk:=Qec (Ze hqN);generalize(Qq b)[q]=k at*;have hLne:¬QU b=[]:=λe=>by rw[e]at hq; simp at hq
    have hLz:¬((QU b).length:Int)=0:=by omega
    have nJ:(((QU b).length:Int)==0)=false:=beq_eq_false_iff_ne.2 hLz;generalize QU b=LL at*;have m7:¬(b.length:Int)=0:=by omega
    have hn0':¬b=[]:=λe=>by rw[e]at h1; exact absurd h1 (by decide)
    simp[QeQ,QPd,QO1,QMG,QGa,s24,Qe,Qc,QOb,QL3,zO,e46,hq,zI,hLq,hLne,nJ,tq,wq,QT];intro g1 a1 w1 I1;show Code.wpIn _ _ _ (Qon 3 _) _ _ _;refine wpIn_seq ?_;have aS:b.map QO.enc≠[]:=by simpa using hn0'
    have fL:b.length*64<=140737488355328:=by omega
    have fV:b.length<=140737488355328:=by omega
    refine QNs cS 2 44 rfl rfl rfl rfl rfl rfl rfl rfl rfl rfl rfl I1 ?_;simp[QMu,QPd,aS,fL,fV,QNN,QNC,QCZ,QO6];intro mm g2 a2 w2 I2;show Code.wpIn _ _ _ _ _ _ _;obtain⟨g,hg,hT⟩:=QMR hV (QMk hy);have e37:=QNO hV hy;rw[hT]at e37;have hkT:k < (QLx b g).length:=by rw[QMM]; exact hk
    have eQ:(k:Int) < b.length:=by omega
    have eTk:(QLx b g)[k]=QM2 b g k:=by simp[QLx]
    have fA:=QO7 (L:=b) hk mm (QM2 b g k);have hle5:k*5+5<=(QLh b mm).length:=by rw[QLP]; omega
    have s7:=QMM b g;refine QgG cS 0 _ rfl (by kernel_rfl) (by kernel_rfl) (λ_ _=>rfl) _ _ _ _ I2 ?_
    rw[Qh]at fA;simp at fA;simp[QeQ,QPd,QO1,QMG,QGa,Qh,e37,hk,eQ,s7,eTk,fA,hle5,QMC,QO6,QT];intro g3 a3 w3 I3;show Code.wpIn _ _ _ _ _ _ _;obtain⟨g4,I4⟩:=QMA cS (b:=44) (t:=9) (n:=b.length) (k:=5) (rows:=(b.set k (QM2 b g k)).map QO.enc) (tail:=List.replicate mm (.d .top)) rfl rfl (λr hr=>by
     obtain⟨x,_,rfl⟩:=List.mem_map.1 hr; rfl) (by rw[List.length_map,List.length_set]) fV rfl I3 I3.deferred
    have hC:=QPa (g:=g) hk;rw[<-hC]at I4;have hCV:=QMF (C:=λt=>decide (t=k)) hV hg;have hCl:=QLi b g (λt=>decide (t=k));have hCv:=QM5 hCV;have hCs:=QNI hCV.ok;have hmust:∀j,QnT b i j=true->QnT (QLs b g λt=>decide (t=k)) i j=true:=λj hj=>by
     unfold QnT at hj|-;rw[Za]at hj|-;exact⟨hj.1,Qnh.2 (QO9 hV hg (Qnh.1 hj.2))⟩
    have hmay:∀j,Qnl (QLs b g λt=>decide (t=k)) i j=true->Qnl b i j=true:=λj hj=>by
     unfold Qnl at hj|-;rw[Za]at hj|-;exact⟨hj.1,Qli.2 (QPb hV hg (Qli.1 hj.2))⟩
    have hleft:=QO8 hV hg (λt=>decide (t=k)) dC;have e19:=QyR hs i;have e19C:=QyR hCs i;have xZ:=QCO hs i;have e25C:=QCO hCs i;rw[QM3 hv dC]at e19;rw[QM3 hCv (by omega)]at e19C
    rw[QNK hv dC]at xZ;rw[QNK hCv (by omega)]at e25C
    rw[hCl]at e19C;have l1:(Qc6 (QnT b i) b.length).length < 1000000:=Nat.lt_of_le_of_lt (Qlu _ _) (by omega)
    have l2:(Qc6 (Qnl b i) b.length).length < 1000000:=Nat.lt_of_le_of_lt (Qlu _ _) (by omega)
    have l3:(Qc6 (QnT (QLs b g λt=>decide (t=k)) i) b.length).length < 1000000:=Nat.lt_of_le_of_lt (Qlu _ _) (by omega)
    have l4:(Qc6 (Qnl (QLs b g λt=>decide (t=k)) i) b.length).length < 1000000:=Nat.lt_of_le_of_lt (Qlu _ _) (by omega)
    have f1:=QOf l1 l3;have f2:=QOf l4 l2;rw[QN9 λj _=>hmust j]at f1;rw[QN9 λj _=>hmay j]at f2;refine QfO cS (by kernel_rfl) (by kernel_rfl) I4 (λ_ _=>rfl) ?_
    generalize Qc6 (QnT b i) b.length=L1 at*;generalize Qc6 (Qnl b i) b.length=L2 at*;generalize Qc6 (QnT (QLs b g λt=>decide (t=k)) i) b.length=L3 at*;generalize Qc6 (Qnl (QLs b g λt=>decide (t=k)) i) b.length=L4 at*;generalize Qj7 b i=v1 at*;generalize Qj7 (QLs b g λt=>decide (t=k)) i=v2 at*;generalize QLs b g (λt=>decide (t=k))=C at*;obtain⟨lo1,pY⟩:=v1;obtain⟨lo2,hi2⟩:=v2;dsimp only at hleft;simp[Qon,QPd,QO1,QMG,QGa,s24,Qii,e19,e19C,xZ,e25C,f1,f2,ti,wi,hn0',hleft.1,hleft.2.1,hleft.2.2,QT];exact λg' a' w' I'=>fin _ _ _ g' a' w' I'
 .cases hr
end Go.Proofs.YtnfeakhkfehkhaaGreatDoor
