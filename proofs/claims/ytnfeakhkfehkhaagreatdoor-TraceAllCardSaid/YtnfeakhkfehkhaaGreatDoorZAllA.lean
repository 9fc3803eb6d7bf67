/-
  All ways to take so many grams: split. Conditions: none.
-/
import Derived.Test.YtnfeakhkfehkhaaGreatDoorZOrd
import Derived.Test.YtnfeakhkfehkhaaGreatDoorZLawD
import Derived.Test.YtnfeakhkfehkhaaGreatDoorZAmFrU
set_option linter.unusedSimpArgs false
set_option linter.unusedVariables false
namespace Go.Proofs.YtnfeakhkfehkhaaGreatDoor
open Go.RowKit
def QQT (r:Nat):List (Nat×Option Nat):=match r with
 | 0=>kpn [0,1,2]
 | 1=>kpn [0,1,2,13]
 | 2=>[(15,none)]
 | 3=>[(6,some 1)]
 | 4=>[(6,some 1)]
 | 5=>[(0,none),(1,none),(2,none),(7,some 1)]
 | 6=>[(0,none),(1,none),(2,none),(7,some 1),(8,none)]
 | 7=>[(0,none),(1,none),(2,none),(7,some 1),(8,none),(28,none)]
 | 8=>[(0,none),(1,none),(2,none),(7,some 1),(8,none)]
 | 9=>[(0,none),(1,none),(2,none),(7,some 1),(8,none),(9,none)]
 | 10=>[(0,none),(1,none),(2,none),(7,some 1),(8,none),(9,none),(10,none)]
 | 11=>[(0,none),(1,none),(2,none),(7,some 1),(8,none),(9,none),(10,none),(41,none)]
 | 12=>[(0,none),(1,none),(2,none),(7,some 1),(8,none),(9,none),(10,none)]
 | 13=>[(0,none),(1,none),(2,none),(7,some 1),(8,none),(9,none),(10,none),(11,some 2)]
 | 14=>[(0,none),(1,none),(2,none),(7,some 1),(8,none),(9,none),(10,none),(11,some 2),(51,none)]
 | 15=>[(0,none),(1,none),(2,none),(7,some 1),(8,none),(9,none),(10,none),(11,some 2)]
 | 16=>[(0,none),(1,none),(2,none),(7,some 1),(8,none),(9,none),(10,none)]
 | 17=>[(6,some 1)]
 | _=>[]
def rTL:Row (List Tak):=⟨1,λx=>[.sl 2 (x.map Qb1.enc)],λd=>match d with | [y]=>(Qy Qb1).dec y | _=>none,λx=>by simp[QdQ],λd x h=>by
 split at h
 .exact QbQ ((Qy Qb1).ed _ _ h) (LImp.refl _)
 .cases h⟩
theorem QQn (x:List Tak):rTL.enc x=[.sl 2 (x.map Qb1.enc)]:=rfl
theorem QQu (l:List (List Tak)):(Qy rTL).dec (.sl 1 (l.map rTL.enc))=some l:=QaY rTL l 1 rfl
def QQJ (m:Nat) (g:Int) (left:List Int):Prop:=0<=g/\g<=6/\m<=left.length/\m<=7/\left.length<=8/\∀x∈left,0<=x/\x<=100000
noncomputable instance (m:Nat) (g:Int) (left:List Int):Decidable (QQJ m g left):=Classical.propDecidable _
def QPC (left:List Int) (x:Nat):Int:=left.getD x 0
noncomputable def s86 (m:Nat):List D->Option D:=sp3 Qbh Qbh (Qy Qt) (Qy rTL) λg many left=>if many=(m:Int)/\QQJ m g left then some (QPM (QPC left) m g)else none
theorem QRb (xs:Array Value) (w:World):(callFunc 86 xs).run Tryz.prog w= .ok (.enter 86 xs) w:=by kernel_rfl
theorem QRu:∀ds d,s86 0 ds=some d->PureC Tryz.prog 86 ds d:=QcG λg many left r hr=>by
 split at hr
 .rename_i hc;obtain⟨rfl,h0,h6,_⟩:=hc;cases hr;refine Qbz (Qy rTL) (QPM (QPC left) 0 g) (QE QB 64 QQT []) Tryz.func86 rfl rfl (Zb rfl) (by kernel_rfl) ?_
  rw[Tryz.results86,QPM];by_cases q:0 < g
  .rw[if_pos q];simp[QQT,q,Qar]
  .rw[if_neg q];have e:(Qy rTL).dec (.sl 1 [[.sl 0 []]])=some [[]]:=rfl;simp[QQT,q,e]
 .cases hr
theorem QRj {m:Nat} {g:Int} {left:List Int} (h:QQJ m g left):s86 m [DI g,DI m,.sl 1 (left.map Qt.enc)]=some (.sl 1 ((QPM (QPC left) m g).map rTL.enc)):=by
 simp only[s86,sp3,QQ,Qam];rw[if_pos ⟨trivial,h⟩]; rfl
def QRd (left:List Int) (m:Nat) (g:Int) (n:Nat):List (List Tak):=(QPM (QPC left) m (g - (n:Nat))).map (QQv m n)
theorem QQ7 (left:List Int) (m:Nat) (g:Int) (n:Nat):(List.range (n+1)).flatMap (QRd left m g)=(List.range n).flatMap (QRd left m g)++QRd left m g n:=by
 rw[List.range_succ,List.flatMap_append]; simp
theorem QQ0 (m n:Nat) (x:List Tak):(QQv m n x).length<=x.length+1:=by
 unfold QQv;split<;>simp
theorem QPV (left:Nat->Int):∀(m:Nat) (g:Int),∀x∈QPM left m g,x.length<=m
 | 0,g,x,hx=>by
  rw[QPM]at hx;split at hx
  .cases hx
  .rw[List.mem_singleton]at hx; subst hx; exact Zr _
 | m+1,g,x,hx=>by
  rw[QPM,List.mem_flatMap]at hx;obtain⟨n,_,hx⟩:=hx;obtain⟨y,hy,rfl⟩:=List.mem_map.1 hx;have h1:=QPV left m _ y hy;have h2:=QQ0 m n y;omega
noncomputable def l86 (m:Nat):List (Nat×(List D->Option D)):=[(86,s86 m)]
set_option maxHeartbeats 4000000 in
theorem QRC (m:Nat) (ih:∀ds d,s86 m ds=some d->PureC Tryz.prog 86 ds d):∀ds d,s86 (m+1) ds=some d->PureC Tryz.prog 86 ds d:=QcG λg many left r hr=>by
 split at hr
 .rename_i hc;obtain⟨rfl,h0,h6,rA,hm7,uP,jU⟩:=hc;cases hr;have iO:Qay Tryz.prog (Qas (l86 m)):=Ql QB QRb ih;refine Qbz (Qy rTL) (QPM (QPC left) (m+1) g) (QE iO 64 QQT []) Tryz.func86 rfl rfl (Zb rfl) (by kernel_rfl) ?_
  rw[Tryz.results86];have hmI:¬((m:Int)+1=0):=by omega
  have xH:(((m:Int)+1)==0)=false:=beq_eq_false_iff_ne.2 hmI;have hmL:m < left.length:=by omega
  have hmLI:(m:Int) < left.length:=by omega
  have nU:=jU _ (Ze hmL);have elm:QPC left m=left[m]:=Qj _ _ _ hmL;have wm:=Qa (m:Int) (by omega) (by omega)
  have hN:QQM g (QPC left m)=(min g left[m]+1).toNat:=by rw[elm]; rfl
  have hNlt:QQM g (QPC left m)<=7:=by rw[hN]; omega
  have hall:QPM (QPC left) (m+1) g=(List.range (QQM g (QPC left m))).flatMap (QRd left m g):=rfl;have htot:(QPM (QPC left) (m+1) g).length<=4398046511104:=by
   refine Nat.le_trans (QP5 (QPC left) hm7 g) ?_;exact Nat.le_trans (Nat.pow_le_pow_right (by omega) (show g.toNat<=6 by omega)) (by decide)
  have gZ:∀n,n<=QQM g (QPC left m)->((List.range n).flatMap (QRd left m g)).length<=(QPM (QPC left) (m+1) g).length:=λn hn=>by
   rw[hall];obtain⟨k,hk⟩:∃k,QQM g (QPC left m)=n+k:=⟨QQM g (QPC left m) - n,by omega⟩
   rw[hk,List.range_add,List.flatMap_append,List.length_append]; omega
  rw[hall]at htot gZ|-;generalize QQM g (QPC left m)=K at*;have f0:(List.range 0).flatMap (QRd left m g)=[]:=rfl;simp[QQT,l86,xH]
  (generalize aC:Cx.loop _ _ _=aE; apply Qi aC (λn=>⟨[(0,.d (DI g)),(1,.d (DI ((m+1:Nat):Int))),(2,.d (.sl 1 (left.map Qt.enc))),(7,.sl 1 (((List.range n).flatMap (QRd left m g)).map rTL.enc) (.tok 7)),(8,.d (DI n))],[],[7],[]⟩) K (by first | (simp; done) | (simp; rfl) | (simp; simp[*])); rotate_left; (show _ < 281474976710656; omega); rfl; rotate_left; all_goals clear aC)
  .intro n hn;have hng:(n:Int)<=g:=by omega
   have hnl:(n:Int)<=left[m]:=by omega
   have w1:=Qa ((n:Int)+1) (by omega) (by omega)
   have w2:=Qa (g - (n:Int)) (by omega) (by omega)
   have h86:=QRj (m:=m) (g:=g - (n:Nat)) (left:=left) ⟨by omega,by omega,by omega,by omega,uP,jU⟩
   have hP:=Nat.le_trans (gZ (n+1) (by omega)) htot
   rw[QQ7]at hP|-;have hml2:=QPV (QPC left) m (g - (n:Nat));unfold QRd at hP|-;have aI:((QPM (QPC left) m (g - (n:Nat))).map (QQv m n)).length=(QPM (QPC left) m (g - (n:Nat))).length:=List.length_map _;rw[List.length_append,aI]at hP;clear aI;generalize QPM (QPC left) m (g - (n:Nat))=L at*;generalize(List.range n).flatMap (λn=>(QPM (QPC left) m (g - (n:Nat))).map (QQv m n))=P at*;obtain⟨Q,hQ0,hQs,hQl,hQe⟩:∃Q:Nat->List (List Tak),Q 0=P/\(∀k (h:k < L.length),Q (k+1)=Q k++[QQv m n L[k]])/\(∀k,k<=L.length->(Q k).length=P.length+k)/\Q L.length=P++L.map (QQv m n):=
    ⟨λk=>P++(L.take k).map (QQv m n),by simp,λk h=>by dsimp only; rw[List.take_succ_eq_append_getElem h,List.map_append,<-List.append_assoc]; rfl,λk h=>by simp; omega,by dsimp only; rw[List.take_length]⟩
   rw[<-hQe];simp[QQT,Qc,hng,hnl,hmL,hmLI,wm,w2,h86];rw[<-hQ0]
   (generalize aC:Cx.loop _ _ _=aE; apply Qi aC (λk=>⟨[(0,.d (DI g)),(1,.d (DI ((m+1:Nat):Int))),(2,.d (.sl 1 (left.map Qt.enc))),(7,.sl 1 ((Q k).map rTL.enc) (.tok 7)),(8,.d (DI n)),(9,.d (.sl 1 (L.map rTL.enc))),(10,.d (DI k))],[],[7],[]⟩) L.length (by first | (simp; done) | (simp; rfl) | (simp; simp[*])); rotate_left; (show _ < 281474976710656; omega); rfl; rotate_left; all_goals clear aC)
   .intro k hk;have eQ:(k:Int) < L.length:=by omega
    have w3:=Qa ((k:Int)+1) (by omega) (by omega)
    have hx:=hml2 _ (Ze hk);have gT:=hQl k (by omega)
    have a1:(Q k).length+1<=140737488355328:=by omega
    have a2:((Q k).length+1)*24<=140737488355328:=by omega
    have a3:L[k].length<=140737488355328:=by omega
    have a4:L[k].length*16<=140737488355328:=by omega
    have a5:L[k].length+1<=140737488355328:=by omega
    have a6:(L[k].length+1)*16<=140737488355328:=by omega
    rw[hQs k hk];generalize Q k=Qk at*;by_cases m7:0 < n
    .have e:QQv m n L[k]=L[k]++[⟨(m:Nat),(n:Nat)⟩]:=if_pos m7;have hn0I:(0:Int) < (n:Int):=by omega
     simp[QQT,QQn,Qo,hk,eQ,m7,wm,w3,a1,a2,a3,a4,a5,a6,e]
    .have e:QQv m n L[k]=L[k]:=if_neg m7;have hn0I:¬(0:Int) < (n:Int):=by omega
     simp[QQT,QQn,hk,eQ,m7,w3,a1,a2,a3,a4,e]
   .simp[QQT,w1]
  .by_cases hq:(K:Int)<=g
   .have gD:¬(K:Int)<=left[m]:=by omega
    simp[QQT,Qc,hq,gD,hmL,hmLI,wm,QQu]
   .simp[QQT,hq,QQu]
 .cases hr
theorem ok86:∀m,∀ds d,s86 m ds=some d->PureC Tryz.prog 86 ds d
 | 0=>QRu
 | m+1=>QRC m (ok86 m)
noncomputable def QRF:List D->Option D:=sp3 Qbh Qbh (Qy Qt) (Qy rTL) λg many left=>if 0<=many/\QQJ many.toNat g left then some (QPM (QPC left) many.toNat g)else none
theorem QRI:∀ds d,QRF ds=some d->PureC Tryz.prog 86 ds d:=QcG λg many left r hr=>by
 split at hr
 .rename_i hc;cases hr;obtain⟨m,rfl⟩:∃k:Nat,many=k:=⟨many.toNat,by omega⟩
  rw[Int.toNat_natCast]at hc|-;exact ok86 m _ _ (QRj hc.2)
 .cases hr
end Go.Proofs.YtnfeakhkfehkhaaGreatDoor
namespace Go.Proofs.YtnfeakhkfehkhaaGreatDoor
open Go.RowKit
def QP7 (r:Nat):List (Nat×Option Nat):=match r with
 | 0=>[(0,none)]
 | 1=>kpn [0,3]
 | 2=>kpn [0,3,12]
 | 3=>kpn [0,3]
 | 4=>kpn [0,3,20]
 | 5=>[(0,none),(3,none),(4,some 1)]
 | 6=>[(0,none),(3,none),(4,some 1),(5,none)]
 | 7=>[(0,none),(3,none),(4,some 1),(6,none)]
 | 8=>[(0,none),(3,none),(4,some 1),(6,none),(7,none)]
 | 9=>[(0,none),(3,none),(4,some 1),(6,none),(7,none),(40,none)]
 | 10=>[(0,none),(3,none),(4,some 1),(6,none),(7,none)]
 | 11=>[(0,none),(3,none),(4,some 1),(6,none),(7,none),(8,none)]
 | 12=>[(0,none),(3,none),(4,some 1),(6,none),(7,none),(8,none)]
 | 13=>[(0,none),(3,none),(4,some 1),(6,none),(7,none)]
 | 14=>[(2,some 1)]
 | 15=>[(2,some 1)]
 | _=>[]
def rBk:Row (List Bat):=⟨1,λx=>[.sl 5 (x.map QO.enc)],λd=>match d with | [y]=>(Qy QO).dec y | _=>none,λx=>by simp[QR],λd x h=>by
 split at h
 .exact QbQ ((Qy QO).ed _ _ h) (LImp.refl _)
 .cases h⟩
theorem QQW (x:List Bat):rBk.enc x=[.sl 5 (x.map QO.enc)]:=rfl
theorem QPH:rBk.k=1:=rfl
theorem QQt (l:List (List Bat)):(Qy rBk).dec (.sl 1 (l.map rBk.enc))=some l:=QaY rBk l 1 rfl
def QQI (f:Nat) (b:List Bat):Prop:=BookOk b/\(∀j,j < b.length->0<=QfE b j)/\(Qq b).length<=f/\QY b.length (QfA b)<=6
noncomputable instance (f:Nat) (b:List Bat):Decidable (QQI f b):=Classical.propDecidable _
noncomputable def s42 (f:Nat):List D->Option D:=sp1 (Qy QO) (Qy rBk) λb=>if QQI f b then some (QPP f b)else none
theorem QRf (xs:Array Value) (w:World):(callFunc 42 xs).run Tryz.prog w= .ok (.enter 42 xs) w:=by kernel_rfl
theorem QP1 {l l':Nat->Int} :∀{m:Nat} {g:Int},(∀x,x < m->l x=l' x)->QPM l m g=QPM l' m g
 | 0,g,_=>rfl
 | m+1,g,h=>by
  rw[QPM,QPM,h m (by omega)]
  congr 1;funext n;rw[QP1 λx hx=>h x (by omega)]
noncomputable def l42:List (Nat×(List D->Option D)):=[(40,s40),(86,QRF)]
theorem QRt:Qay Tryz.prog (Qas l42):=Ql (Ql QB QRb QRI) Qzm QRE
theorem QRH {b:Nat} (j:Nat):QfB [] b j=none:=rfl
theorem QQx (L:List Bat) (m b i:Nat) (av nw:List Nat):Qaw [] b i (QLh L m) av nw=(QLh L m,av,nw):=QNj QRH L m i av nw
theorem QRc {b:List Bat} (h:BookOk b) (hl:Qq b=[]):PureC Tryz.prog 42 [(Qy QO).enc b] ((Qy rBk).enc [b]):=by
 refine Qbz (Qy rBk) [b] (QE QRt 65 QP7 []) Tryz.func42 rfl rfl (Zb rfl) (by kernel_rfl) ?_
 rw[Tryz.results42];have aX:=h.le;have hn:=QQc hl;have e:(Qy rBk).dec (.sl 1 [[.sl 5 (b.map QO.enc)]])=some [b]:=QQt [b];simp[QP7,Qe]
 (generalize aC:Cx.loop _ _ _=aE; apply Qi aC (λk=>⟨[(0,.d (.sl 5 (b.map QO.enc))),(3,.d (DI k))],[],[],[]⟩) b.length rfl; rotate_left; (show _ < 281474976710656; omega); rfl; rotate_left; all_goals clear aC)
 .intro k hk;have eQ:(k:Int) < b.length:=by omega
  have w1:=Qa ((k:Int)+1) (by omega) (by omega)
  have fB:=hn k;unfold Qfv at fB;rw[Qbf hk]at fB;simp[QP7,Qh,hk,eQ,fB,w1]
 .simp[QP7,e]
theorem QRg {f:Nat} {b:List Bat} (h:QQI f b):s42 f [.sl 5 (b.map QO.enc)]=some (.sl 1 ((QPP f b).map rBk.enc)):=by
 simp only[s42,sp1,QR];rw[if_pos h]; rfl
theorem QRq {m:Nat} {g:Int} {left:List Int} (h:QQJ m g left):QRF [DI g,DI m,.sl 1 (left.map Qt.enc)]=some (.sl 1 ((QPM (QPC left) m g).map rTL.enc)):=by
 simp only[QRF,sp3,QQ,Qam];rw[if_pos ⟨by omega,by rw[Int.toNat_natCast]; exact h⟩,Int.toNat_natCast]; rfl
noncomputable def QRL (f:Nat):List (Nat×(List D->Option D)):=(42,s42 f)::l42
set_option maxHeartbeats 4000000 in
theorem QRy (f:Nat) (ih:∀ds d,s42 f ds=some d->PureC Tryz.prog 42 ds d) {b:List Bat} (h:QQI (f+1) b) {i:Nat} {r:List Nat} (hl:Qq b=i::r):PureC Tryz.prog 42 [(Qy QO).enc b] ((Qy rBk).enc (QPP (f+1) b)):=by
 obtain⟨aQ,hkept,hmany,wA⟩:=h;have aX:=aQ.le;have gW:=aQ.pos;obtain⟨hi,dC,bA⟩:=QPT hl;have iO:Qay Tryz.prog (Qas (QRL f)):=Ql QRt QRf ih;have cS:=QE iO 65 QP7 [];have m7:=(QqM aQ i).1;have hn6:QfA b i<=6:=by
  have:=QfL (f:=QfA b) (n:=b.length) (λj _=>(QqM aQ j).1) hi;omega
 have hS:QQJ i (QfA b i) (QI b):=⟨m7,hn6,by rw[QN]; omega,by omega,by rw[QN]; omega,λx hx=>by
  obtain⟨k,hk,rfl⟩:=List.getElem_of_mem hx;have cZ:k < b.length:=by rw[QN]at hk; exact hk
  have e:(QI b)[k]=QfE b k:=by simp[QI]
  rw[e];exact⟨hkept k cZ,(Qqm aQ cZ).2⟩⟩
 have h86:=QRq hS;have hcg:QPM (QPC (QI b)) i (QfA b i)=QPM (QfE b) i (QfA b i):=QP1 λx hx=>by
  have:x < b.length:=by omega
  simp[QPC,QI,Zd,this]
 rw[hcg]at h86;have hall:QPP (f+1) b=(QPM (QfE b) i (QfA b i)).flatMap λl=>QPP f (QPF b i l):=by rw[QPP,hl]
 have aI:=QP6 (f+1) aQ hkept;have h42:∀l∈QPM (QfE b) i (QfA b i),QQI f (QPF b i l):=λl uH=>by
  obtain⟨c,q1,q2,q3,q4,rfl⟩:=(QPO _ _ _ _ m7).1 uH;have C:CardOk b i c:=⟨aQ,hkept,hi,dC,q1,q2,q3,q4⟩;have hm:=C.many;refine⟨C.book,C.kept',by omega,?_⟩
  rw[QPz,Q0 (g:=Q2 (QfA b) i 0) λt _=>C.needs t,Qfu _ _ hi];omega
 have hlen':(QPP (f+1) b).length<=4398046511104:=Nat.le_trans aI (Nat.le_trans (Nat.pow_le_pow_right (by omega) (show _<=6 by omega)) (by decide))
 have htk:(b[i]).takes=[]:=by
  have:=dC;unfold Qfv at this;rw[Qbf hi]at this;exact(aQ.at hi).lost this
 have hlost:(b[i]).lost=true:=by
  have:=dC;unfold Qfv at this;rw[Qbf hi]at this;exact this
 have hneed:(b[i]).grams - (b[i]).fresh=QfA b i:=by
  unfold QfA;rw[Qbf hi,hlost,if_pos rfl]
 have hspl:=QP5 (QfE b) (by omega:i<=7) (QfA b i)
 have hspl':(QPM (QfE b) i (QfA b i)).length<=4398046511104:=Nat.le_trans hspl (Nat.le_trans (Nat.pow_le_pow_right (by omega) (show _<=6 by omega)) (by decide))
 rw[hall]at hlen'|-;clear hall aI hcg hS hspl;generalize QPM (QfE b) i (QfA b i)=L at*;have gZ:∀n,n<=L.length->((L.take n).flatMap λl=>QPP f (QPF b i l)).length<=(L.flatMap λl=>QPP f (QPF b i l)).length:=λn hn=>by
  have:L.flatMap (λl=>QPP f (QPF b i l))=(L.take n++L.drop n).flatMap (λl=>QPP f (QPF b i l)):=by rw[List.take_append_drop]
  rw[this,List.flatMap_append,List.length_append]; omega
 have e40:=QNV aQ;have zN:(i:Int) < b.length:=by omega
 have fV:b.length<=140737488355328:=by omega
 have wn:IntKind.i64.wrap ((b[i]).grams - (b[i]).fresh)=QfA b i:=by rw[hneed]; exact Qa _ (by omega) (by omega)
 refine QdD Tryz.func42 rfl rfl (Zb rfl) λm w a I tV=>?_;refine QgG cS 0 _ rfl (by kernel_rfl) (by kernel_rfl) (λ_ _=>rfl) _ _ _ _ I ?_
 simp[QeQ,QP7,Qe,QT];intro g1 a1 w1 I1;show Code.wpIn _ _ _ (Qon 0 _) _ _ _;refine wpIn_seq ?_;refine wpIn_seq ?_;refine QfO cS (by kernel_rfl) (by kernel_rfl) I1 (λ_ _=>rfl) ?_
 simp[QP7,QT];intro g2 a2 w2 I2;refine wpIn_block (QnA (λk a' w'=>∃g',Inv 65 m (Qdz w []) g' ⟨[(0,.d (.sl 5 (b.map QO.enc))),(3,.d (DI k))],[],[],[]⟩ a' w') i ?_ ?_ ⟨g2,by simpa using I2⟩)
 .rintro k hk a3 w3 ⟨g3,I3⟩;have oO:k < b.length:=by omega
  have eQ:(k:Int) < b.length:=by omega
  have wk:=Qa ((k:Int)+1) (by omega) (by omega)
  have fB:=bA k hk;unfold Qfv at fB;rw[Qbf oO]at fB;refine QfO cS (by kernel_rfl) (by kernel_rfl) I3 (λ_ _=>rfl) ?_
  simp[QP7,Qh,oO,eQ,fB,wk,QT];exact λg4 a4 w4 I4=>⟨g4,I4⟩
 .rintro a3 w3 ⟨g3,I3⟩;refine QgG cS 0 _ rfl (by kernel_rfl) (by kernel_rfl) (λ_ _=>rfl) _ _ _ _ I3 ?_
  simp[QeQ,QP7,zN,QT];intro g4 a4 w4 I4;show Code.wpIn _ _ _ (Qon 0 _) _ _ _;refine wpIn_seq (wpIn_block ?_);refine QgG cS 3 _ rfl (by kernel_rfl) (by kernel_rfl) (λ_ _=>rfl) _ _ _ _ I4 ?_
  simp[QeQ,QP7,QRL,l42,Qh,hi,zN,hlost,e40,wn,h86,QT];intro g5 a5 w5 I5;show Code.wpIn _ _ _ (Qon 3 _) _ _ _;refine wpIn_seq ?_;refine wpIn_seq ?_;refine QfO cS (by kernel_rfl) (by kernel_rfl) I5 (λ_ _=>rfl) ?_
  simp[QP7,QT];intro g6 a6 w6 I6;refine wpIn_block (QnA (λn a' w'=>∃g',Inv 65 m (Qdz w []) g' ⟨[(0,.d (.sl 5 (b.map QO.enc))),(3,.d (DI i)),(4,.sl 1 (((L.take n).flatMap λl=>QPP f (QPF b i l)).map rBk.enc) (.tok 4)),(6,.d (.sl 1 (L.map rTL.enc))),(7,.d (DI n))],[],[4],[]⟩ a' w') L.length ?_ ?_ ⟨g6,by simpa using I6⟩)
  .rintro n hn a7 w7 ⟨g7,I7⟩;have hnI:(n:Int) < L.length:=by omega
   have wn1:=Qa ((n:Int)+1) (by omega) (by omega)
   refine QgG cS 0 _ rfl (by kernel_rfl) (by kernel_rfl) (λ_ _=>rfl) _ _ _ _ I7 ?_
   simp[QeQ,QP7,hnI,QT];intro g8 a8 w8 I8;show Code.wpIn _ _ _ (Qon 0 _) _ _ _;refine wpIn_seq (wpIn_block (wpIn_seq ?_));have aS:b.map QO.enc≠[]:=by
    intro h;have:b.length=0:=by rw[<-List.length_map (f:=QO.enc),h]; rfl
    omega
   have lV:¬b=[]:=λh=>aS (by rw[h]; rfl)
   have fL:b.length*64<=140737488355328:=by omega
   refine QNs cS 2 45 rfl rfl rfl rfl rfl rfl rfl rfl rfl (by simp[Qan,QcP]) rfl I8 ?_
   simp[QMu,QP7,aS,fL,fV,QNN,QNC,QCZ,QQx];intro mm g9 a9 w9 I9;show Code.wpIn _ _ _ _ _ _ _;refine wpIn_seq ?_;have rQ:=Ze hn;have e1:=QL8 (L:=b) hi mm (c:=3) (by omega) (v:=DB false) (x:= { b[i]with lost:=false}) (by simp[Qh])
   have e2:=QL8 (L:=b.set i { b[i]with lost:=false}) (i:=i) (by rw[List.length_set]; exact hi) mm (c:=4) (by omega) (v:= .sl 2 (L[n].map Qb1.enc)) (x:= { b[i]with lost:=false,takes:=L[n]}) (by simp[Qh])
   have e3:(b.set i { b[i]with lost:=false}).set i { b[i]with lost:=false,takes:=L[n]} =QPF b i L[n]:=by
    unfold QPF;rw[List.set_set,Qbf hi]
   rw[e3]at e2;have c1:i*5+4<=(QLh b mm).length:=by rw[QLP]; omega
   have c2:i*5+5<=(QLh (b.set i { b[i]with lost:=false}) mm).length:=by rw[QLP,List.length_set]; omega
   refine QfO cS (by kernel_rfl) (by kernel_rfl) I9 (λ_ _=>rfl) ?_
   simp[QP7,QQn,zN,hn,hnI,e1,e2,c1,c2,QMC,QQx,QT];intro g10 a10 w10 I10;obtain⟨g11,I11⟩:=QQF cS (b:=45) (t:=8) (n:=b.length) (k:=5) (rows:=(QPF b i L[n]).map QO.enc) (tail:=List.replicate mm (.d .top)) rfl rfl (λr hr=>by
    obtain⟨x,_,rfl⟩:=List.mem_map.1 hr; rfl) (by rw[List.length_map,QPz]) fV rfl I10 I10.deferred
   have hp:=gZ (n+1) (by omega)
   have hF:((L.take (n+1)).flatMap λl=>QPP f (QPF b i l))=((L.take n).flatMap λl=>QPP f (QPF b i l))++QPP f (QPF b i L[n]):=by
    rw[List.take_succ_eq_append_getElem hn,List.flatMap_append]; simp
   rw[hF,List.length_append]at hp;rw[hF];have e42:=QRg (h42 L[n] rQ);generalize((L.take n).flatMap λl=>QPP f (QPF b i l))=P at*;generalize QPF b i L[n]=y at*;generalize QPP f y=A at*;have p1:P.length+A.length<=140737488355328:=by omega
   have p2:(P.length+A.length)*24<=140737488355328:=by omega
   refine QfO cS (by kernel_rfl) (by kernel_rfl) I11 (λ_ _=>rfl) ?_
   simp[QQa,QP7,QRL,l42,e42,QPH,p1,p2,QT];intro g12 a12 w12 I12;simp only[AEx.out,Exit.then,Exit.inBlock];refine QfO cS (by kernel_rfl) (by kernel_rfl) I12 (λ_ _=>rfl) ?_
   simp[QP7,wn1,QT];exact λg13 a13 w13 I13=>⟨g13,I13⟩
  .rintro a7 w7 ⟨g7,I7⟩;rw[List.take_length]at I7;refine QfO cS (by kernel_rfl) (by kernel_rfl) I7 (λ_ _=>rfl) ?_
   simp[QP7,QT];intro g8 a8 w8 I8;simp only[AEx.out,Exit.then,Exit.inBlock,if_true];refine QfO cS (by kernel_rfl) (by kernel_rfl) I8 (λ_ _=>rfl) ?_
   simp[QP7,QT];intro g9 a9 w9 I9;exact QmT (Qy rBk) (L.flatMap λl=>QPP f (QPF b i l)) cS I9 (rs:=[.sl 1 ((L.flatMap λl=>QPP f (QPF b i l)).map rBk.enc)]) (by rw[Tryz.results42]; simp) (by simp[Qew,QQt])
theorem ok42:∀f,∀ds d,s42 f ds=some d->PureC Tryz.prog 42 ds d
 | 0=>Qb2 λb r hr=>by
  split at hr
  .rename_i hc;cases hr;rw[QPP];exact QRc hc.1 (List.length_eq_zero_iff.1 (Nat.le_zero.1 hc.2.2.1))
  .cases hr
 | f+1=>Qb2 λb r hr=>by
  split at hr
  .rename_i hc;cases hr;cases hl:Qq b with
   | nil=>
    rw[QPP,hl];exact QRc hc.1 hl
   | cons i r=>exact QRy f (ok42 f) hc hl
  .cases hr
end Go.Proofs.YtnfeakhkfehkhaaGreatDoor
