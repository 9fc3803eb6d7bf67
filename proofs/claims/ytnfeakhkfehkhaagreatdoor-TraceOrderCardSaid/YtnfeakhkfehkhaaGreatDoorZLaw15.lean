/-
  TraceOrder: two batches change places. Conditions: none.
-/
import Derived.Test.YtnfeakhkfehkhaaGreatDoorZLawD
import Derived.Test.YtnfeakhkfehkhaaGreatDoorZOrd
set_option linter.unusedSimpArgs false
set_option linter.unusedVariables false
namespace Go.Proofs.YtnfeakhkfehkhaaGreatDoor
open Go.RowKit
def QPZ (r:Nat):List (Nat×Option Nat):=match r with
 | 0=>kpn [0,3]
 | 1=>kpn [0,3,32]
 | 2=>[(4,none)]
 | 3=>kpn [0,3,5]
 | 4=>kpn [0,3,5,53]
 | 5=>[(4,none)]
 | 6=>kpn [0,3,5,6]
 | 7=>kpn [0,3,5,6,63]
 | 8=>kpn [0,3,5,6]
 | 9=>kpn [0,3,5,6,77]
 | 10=>[(4,none)]
 | 11=>kpn [0,3,5,7]
 | 12=>kpn [0,3,5,7]
 | 13=>kpn [0,3,5,7,8]
 | 14=>kpn [0,3,5,7,8,102]
 | 15=>kpn [0,3,5,7,8]
 | 16=>[(0,none),(3,none),(5,none),(7,none),(8,none),(9,some 2)]
 | 17=>[(0,none),(3,none),(5,none),(7,none),(8,none),(9,some 2),(10,none)]
 | 18=>[(0,none),(3,none),(5,none),(7,none),(8,none),(9,some 2),(10,none),(112,none)]
 | 19=>[(0,none),(3,none),(5,none),(7,none),(8,none),(9,some 2),(10,none)]
 | 20=>[(0,none),(3,none),(5,none),(7,none),(8,none),(9,some 2),(10,none),(11,none)]
 | 21=>[(0,none),(3,none),(5,none),(7,none),(8,none),(9,some 2),(10,none),(11,none)]
 | 22=>[(0,none),(3,none),(5,none),(7,none),(8,none),(9,some 2),(10,none),(11,none),(12,none)]
 | 23=>[(0,none),(3,none),(5,none),(7,none),(8,none),(9,some 2),(10,none),(11,none),(12,none),(142,none)]
 | 24=>[(0,none),(3,none),(5,none),(7,none),(8,none),(9,some 2),(10,none),(11,none),(12,none)]
 | 25=>[(0,none),(3,none),(5,none),(7,none),(8,none),(9,some 2),(10,none)]
 | 26=>kpn [0,3,5,7,8]
 | 27=>kpn [0,5,7,13]
 | 28=>kpn [0,5,7,13,14,15,16]
 | 29=>kpn [0,5,7,13,14,15,16,17,18,19]
 | 30=>kpn [0,5,7,13,14,15,16,17,18,19,20,21]
 | 31=>kpn [0,5,14,15,16,17,18,19,20,21,22,23]
 | 32=>kpn [0,5,14,15,17,18,230]
 | 33=>[(4,none)]
 | 34=>kpn [0,5,14,15,17,18,24]
 | 35=>kpn [0,5,14,15,17,18,24,234]
 | 36=>kpn [0,5,14,15,17,18,24]
 | 37=>kpn [0,5,14,15,17,18,24,256]
 | 38=>[(4,none)]
 | 39=>[(4,none)]
 | _=>[]
def QPY (b:List Bat) (n k:Nat):List Bat:=(List.range b.length).map λi=> { b.getD (swN n i) default with takes:=if i < n then(b.getD i default).takes else if i < n+k then QQY n (b.getD (swN n i) default).takes else(b.getD (swN n i) default).takes}
theorem QQA (b:List Bat) (n k:Nat):(QPY b n k).length=b.length:=by simp[QPY]
theorem QPU {b:List Bat} {n k i:Nat} (h:i < (QPY b n k).length):(QPY b n k)[i]= { b.getD (swN n i) default with takes:=if i < n then(b.getD i default).takes else if i < n+k then QQY n (b.getD (swN n i) default).takes else(b.getD (swN n i) default).takes} :=by simp[QPY]
theorem QQZ {b:List Bat} {n:Nat} (h:n<=b.length):QPY b n (b.length - n)=QPG b n:=by
 unfold QPY QPG;refine List.map_congr_left λi hi=>?_;have:=Zm.1 hi;by_cases q:i < n
 .rw[if_pos q,if_pos q]
 .rw[if_neg q,if_neg q,if_pos (by omega)]
theorem QQO {b:List Bat} {n:Nat} (h:n+1 < b.length):QPY b n 0=(b.set n (b.getD (n+1) default)).set (n+1) (b.getD n default):=by
 refine List.ext_getElem (by simp[QPY]) λi h1 h2=>?_
 have hi:i < b.length:=by simpa[QPY]using h1
 rw[QPU h1,List.getElem_set,List.getElem_set];have hs:swN n i=if i=n then n+1 else if i=n+1 then n else i:=rfl;by_cases e:i=n+1
 .have e2:swN n i=n:=by rw[hs,if_neg (by omega),if_pos e]
  rw[if_pos e.symm,if_neg (by omega),if_neg (by omega),e2]
 .rw[if_neg (show ¬n+1=i from λq=>e q.symm)];by_cases e1:i=n
  .have e2:swN n i=n+1:=by rw[hs,if_pos e1]
   rw[if_pos e1.symm,if_neg (by omega),if_neg (by omega),e2]
  .have e2:swN n i=i:=by rw[hs,if_neg e1,if_neg e]
   rw[if_neg (show ¬n=i from λq=>e1 q.symm),e2,<-Qbf hi];split
   .rfl
   .rw[if_neg (by omega)]
theorem QQQ {b:List Bat} {n k:Nat} (h:n+k < (QPY b n k).length):QPY b n (k+1)=(QPY b n k).set (n+k) { (QPY b n k)[n+k]with takes:=QQY n (QPY b n k)[n+k].takes} :=by
 refine List.ext_getElem (by simp[QPY]) λi h1 h2=>?_
 have hi:i < b.length:=by simpa[QPY]using h1
 rw[List.getElem_set,QPU h1];by_cases e:n+k=i
 .subst e;rw[if_pos rfl,QPU h,if_neg (by omega),if_pos (by omega),if_neg (by omega),if_neg (by omega)]
 .rw[if_neg e,QPU];by_cases q:i < n
  .rw[if_pos q,if_pos q]
  .rw[if_neg q,if_neg q];by_cases q2:i < n+k
   .rw[if_pos q2,if_pos (by omega)]
   .rw[if_neg q2,if_neg (by omega)]
theorem QQL {b:List Bat} {n k:Nat} (h:n+k < (QPY b n k).length) (hb:n+1 < b.length):(QPY b n k)[n+k].takes=(b.getD (swN n (n+k)) default).takes:=by
 rw[QPU h,if_neg (by omega),if_neg (by omega)]
theorem QPE (L:List Bat) (m b i:Nat) (av nw:List Nat):Qaw [] b i (QLh L m) av nw=(QLh L m,av,nw):=QNj (λj=>rfl) L m i av nw
theorem QO7 {L:List Bat} {i:Nat} (h:i < L.length) (m:Nat) (x:Bat):(QLh L m).take (i*5)++((QO.enc x).map X.d++(QLh L m).drop (i*5+5))=QLh (L.set i x) m:=by
 obtain⟨P,Q,h1,_,_,h2,h3⟩:=QLG h m;have hl:((QO.enc L[i]).map X.d).length=5:=by simp[Qh]
 rw[h3,h2,List.take_append,h1,List.take_of_length_le (by omega),Nat.sub_self,List.take_zero,List.append_nil,List.drop_append,h1,List.drop_eq_nil_of_le (by omega),show i*5+5 - i*5=5 by omega,List.drop_append_of_le_length (by omega),List.drop_of_length_le (by omega)]
 simp
theorem QQD (n:Nat) (l:List Tak):∀k,(QQl n l k).length=k
 | 0=>rfl
 | k+1=>by
  rw[QQl];have:=(QQd (QQl n l k) (swT n (l.getD k default))).length_eq;rw[this,List.length_cons,QQD n l k]
theorem SwOk.comesM {b:List Bat} {n:Nat} (S:SwOk b n) (i k:Nat):comesM (QPG b n) (swN n i) (swN n k)=comesM b i k:=by
 unfold Go.Proofs.YtnfeakhkfehkhaaGreatDoor.comesM;rw[S.must];congr 1;rw[Bool.eq_iff_iff,bne_iff_ne,bne_iff_ne];exact⟨λh e=>h (by rw[e]),λh e=>h (QQm e)⟩
theorem SwOk.comesY {b:List Bat} {n:Nat} (S:SwOk b n) (i k:Nat):comesY (QPG b n) (swN n i) (swN n k)=comesY b i k:=by
 unfold Go.Proofs.YtnfeakhkfehkhaaGreatDoor.comesY;rw[S.may];congr 1;rw[Bool.eq_iff_iff,bne_iff_ne,bne_iff_ne];exact⟨λh e=>h (by rw[e]),λh e=>h (QQm e)⟩
theorem QQP {n N:Nat} (h:n+1 < N) {p q:Nat->Bool} (e:∀k,q (swN n k)=p k):(Qc6 q N).length=(Qc6 p N).length:=by
 unfold Qc6;rw[List.length_map,List.length_map];exact(QRh h λk _=>(e k).symm).symm
theorem QRi (i:Nat) {n:Nat} (h:n<=1000):s47 [DI i,DI n]=some (DI (swN n i:Nat)):=by
 simp only[s47,sp2,Qam];rw[if_pos (by omega),QQX]; rfl
theorem QRr (f:Int) {n:Nat} (h:n<=1000):s47 [DI f,DI n]=some (DI (QPx f n)):=by
 simp only[s47,sp2,Qam];rw[if_pos (by omega)]; rfl
noncomputable def QPA:List (Nat×(List D->Option D)):=(47,s47)::QMG
theorem QRp:Qay Tryz.prog (Qas QPA):=Ql QN8 QRx ok47
noncomputable def s15:List D->Option D:=sp2 (Qy QO) (QeC QOi) QaI λb w=>if QcC b/\QLK w.a/\QLK w.b then some true else none
set_option maxHeartbeats 16000000 in
theorem ok15:∀ds d,s15 ds=some d->PureC Tryz.prog 15 ds d:=QaR λb w r hr=>by
 split at hr
 .rename_i hc;obtain⟨hs,hwa,nP⟩:=hc;cases hr;have cS:=QE QRp 258 QPZ [];refine QdD Tryz.func15 rfl rfl (Zb rfl) λm w0 a I tV=>?_;have fin:∀(bs:List (Nat×List X)) (tk:List Nat) (mp:List (Nat×(Nat×List (Value×Value)))) g' a' w',Inv 258 m (Qdz w0 []) g' ⟨[(4,.d (DB true))],bs,tk,mp⟩ a' w'->bodyPostD Tryz.prog Tryz.f15 (RetR m w0 (DB true)) .ret a' w':=by
   intro bs tk mp g' a' w' I';refine Qim cS I' (r:=[DB true]) ?_ rfl;rw[Tryz.results15]; simp
  refine QgG cS 4 _ rfl (by kernel_rfl) (by kernel_rfl) (λ_ _=>rfl) _ _ _ _ I ?_
  have zO:=QNl hs;cases hv:QLq b with
  | false=>
   rw[hv]at zO;simp[QeQ,QPZ,QPA,QMG,QGa,s24,Qe,QOb,zO,QT];exact λg' a' w' I'=>fin _ _ _ g' a' w' I'
  | true=>
   rw[hv]at zO;obtain⟨hV,h8,h1,hask⟩:=QLJ hv;have aQ:=hV.ok;by_cases h2:b.length < 2
   .have h2I:(b.length:Int) < 2:=by omega
    simp[QeQ,QPZ,QPA,QMG,QGa,s24,Qe,QOb,zO,h2I,QT];exact λg' a' w' I'=>fin _ _ _ g' a' w' I'
   .have h2I:¬(b.length:Int) < 2:=by omega
    have gX:(b.length:Int) - 1=((b.length - 1:Nat):Int):=by omega
    obtain⟨n,hn,tn,wn,wn2⟩:=QML hwa (n:=b.length - 1) (by omega) (by omega)
    obtain⟨i,dC,ti,wi,wi2⟩:=QML nP (n:=b.length) (by omega) (by omega)
    rw[<-gX]at tn;have wl:=Qa ((b.length:Int) - 1) (by omega) (by omega)
    have hlz:¬(b.length:Int) - 1=0:=by omega
    have m7:n < b.length:=by omega
    have pA:n+1 < b.length:=by omega
    have hnI:(n:Int) < b.length:=by omega
    have hnI1:(n:Int)+1 < b.length:=by omega
    have hnz1:(0:Int)<=(n:Int)+1:=by omega
    have hnt1:((n:Int)+1).toNat=n+1:=by omega
    have wp:=Qa ((n:Int)+1) (by omega) (by omega)
    have hb0:¬(b.length:Int)=0:=by omega
    have hb0':¬b=[]:=λe=>by rw[e]at h1; exact absurd h1 (by decide)
    cases hl0:b[n].lost with
    | true=>
     simp[QeQ,QPZ,QPA,QMG,QGa,s24,Qe,Qh,QOb,zO,h2I,tn,wn,wl,hlz,m7,hnI,hl0,QT];exact λg' a' w' I'=>fin _ _ _ g' a' w' I'
    | false=>
     cases pE:b[n+1].lost with
     | true=>
      simp[QeQ,QPZ,QPA,QMG,QGa,s24,Qe,Qh,QOb,zO,h2I,tn,wn,wl,hlz,m7,pA,hnI,hnI1,hnz1,hnt1,wp,hl0,pE,QT];exact λg' a' w' I'=>fin _ _ _ g' a' w' I'
     | false=>
      simp[QeQ,QPZ,QPA,QMG,QGa,s24,Qe,Qh,QOb,zO,h2I,tn,wn,wl,hlz,m7,pA,hnI,hnI1,hnz1,hnt1,wp,hl0,pE];have eD:=aQ.at pA;have dJ:=Qdy eD.asc eD.fr;rcases Qfq (λt:Tak=>t.fr==(n:Int)) b[n+1].takes with⟨e0,hall⟩ | ⟨k0,hk0,e0,aL,aM⟩
      .have S:SwOk b n:=⟨hV,pA,by unfold Qfv; rw[Qbf m7]; exact hl0,by unfold Qfv; rw[Qbf pA]; exact pE,by unfold QnV; rw[Qbf pA]; exact e0⟩
       (generalize aC:Cx.loop _ _ _=aE; apply Qc2 aC (λk=>⟨[(0,.d (.sl 5 (b.map QO.enc))),(3,.loc 3 0),(5,.d (DI n)),(6,.d (DI k))],[(3,[.d (.v (.int .u8 w.a)),.d (.v (.int .u8 w.b))])],[],[]⟩) (b[n+1].takes.length) (by first | (simp; done) | (simp; rfl) | (simp[*]; done) | (simp; simp[*])); rotate_left; (show _ < 281474976710656; omega); (exact λh=>h); rotate_left; all_goals clear aC)
       .intro k hk;have eQ:(k:Int) < b[n+1].takes.length:=by omega
        have w1:=Qa ((k:Int)+1) (by omega) (by omega)
        have hq:(b[n+1].takes[k].fr==(n:Int))=false:=hall k hk;simp[QPZ,Qh,Qo,pA,hnI1,hnz1,hnt1,wp,hk,eQ,w1,hq]
       .simp[QPZ,Qh,pA,hnI1,hnz1,hnt1,wp,QT];intro g1 a1 w1 I1;show Code.wpIn _ _ _ (Qon 4 _) _ _ _;refine wpIn_seq ?_;have aS:b.map QO.enc≠[]:=by simpa using hb0'
        have fL:b.length*64<=140737488355328:=by omega
        have fV:b.length<=140737488355328:=by omega
        refine QNs cS 2 81 rfl rfl rfl rfl rfl rfl rfl rfl rfl (by simp[Qan,QcP]) rfl I1 ?_
        simp[QMu,QPZ,QPA,QMG,QGa,s24,aS,fL,fV,QNN,QNC,QCZ,QPE];intro mm g2 a2 w2 I2;show Code.wpIn _ _ _ _ _ _ _;have d1:=QO7 (L:=b) m7 mm b[n+1];have d2:=QO7 (L:=b.set n b[n+1]) (i:=n+1) (by rw[List.length_set]; exact pA) mm b[n]
        have d3:=QQO pA;rw[Qbf m7,Qbf pA]at d3;rw[<-d3]at d2;have c1:n*5+5<=(QLh b mm).length:=by rw[QLP]; omega
        have c2:(n+1)*5+5<=(QLh (b.set n b[n+1]) mm).length:=by rw[QLP,List.length_set]; omega
        refine QgG cS 1 _ rfl (by kernel_rfl) (by kernel_rfl) (λ_ _=>rfl) _ _ _ _ I2 ?_
        rw[Qh]at d1 d2;simp at d1 d2;simp[QeQ,QPZ,QPA,QMG,QGa,s24,Qh,Qh,m7,pA,hnI,hnI1,hnz1,hnt1,wp,d1,d2,c1,c2,QMC,QPE]
        (generalize aC:Cx.loop _ _ _=aE; apply Qc2 aC (λk=>⟨[(0,.d (.sl 5 (b.map QO.enc))),(3,.loc 3 0),(5,.d (DI n)),(7,.bs 81 0 b.length 5),(8,.d (DI ((n+k:Nat):Int)))],[(3,[.d (.v (.int .u8 w.a)),.d (.v (.int .u8 w.b))]),(81,QLh (QPY b n k) mm)],[],[]⟩) (b.length - n) (by first | (simp; done) | (simp; rfl) | (simp[*]; done) | (simp; simp[*])); rotate_left; (show _ < 281474976710656; omega); (exact λh=>h); rotate_left; all_goals clear aC)
        .intro k hk;obtain⟨q,hq⟩:∃q,q=n+k:=⟨_,rfl⟩;have rS:q < b.length:=by omega
         have zI:(q:Int) < b.length:=by omega
         have wq:=Qa ((q:Int)+1) (by omega) (by omega)
         have hKl:n+k < (QPY b n k).length:=by rw[QQA]; omega
         have hKs:=QQQ hKl;have hKt:=QQL hKl pA;have zF:swN n (n+k) < b.length:=(QPJ pA).2 (by omega)
         rw[Qbf zF]at hKt;have iC:=aQ.at zF;have htl2:=Qdy iC.asc iC.fr;have htl3:(b[swN n (n+k)]'zF).takes.length<=8:=by omega
         rw[hKs,show n+(k+1)=q+1 by omega]
         have hOl:=QQA b n k;generalize QPY b n k=O at*;simp only[<-hq]at hKl hKt htl3|-;generalize hl:O[q].takes=l at*;have uF:l.length<=8:=by rw[hKt]; exact htl3
         have c4:=QMD (L:=O) hKl mm (c:=4) (by omega)
         rw[Qh,hl]at c4;simp at c4;have cW:=λo j av nw=>QM0 (kb:=[]) (b:=81) (λj=>rfl) (L:=O) hKl mm (R:=(QQY n l).map Qb1.enc) (x:= { O[q]with takes:=QQY n l}) (by simp[Qh]) o j av nw
         have c6:q*5+5<=(QLh O mm).length:=by rw[QLP]; omega
         have hz:QQl n l 0=[]:=rfl;simp[QPZ,zI,QMC,QPE]
         (generalize aC:Cx.loop _ _ _=aE; apply Qi aC (λj=>⟨[(0,.d (.sl 5 (b.map QO.enc))),(3,.loc 3 0),(5,.d (DI n)),(7,.bs 81 0 b.length 5),(8,.d (DI q)),(9,.sl 2 ((QQl n l j).map Qb1.enc) (.tok 9)),(10,.d (DI j))],[(3,[.d (.v (.int .u8 w.a)),.d (.v (.int .u8 w.b))]),(81,QLh O mm)],[9],[]⟩) l.length (by first | (simp; done) | (simp; rfl) | (simp; simp[*])); rotate_left; (show _ < 281474976710656; omega); rfl; rotate_left; all_goals clear aC)
         .intro j hj;have xG:(j:Int) < l.length:=by omega
          have w1:=Qa ((j:Int)+1) (by omega) (by omega)
          have e47:=QRr l[j].fr (n:=n) (by omega)
          have hil2:=QQD n l j;have eI:QQl n l (j+1)=QRn (QQl n l j) (swT n l[j]):=by rw[QQl,Qj _ _ _ hj]
          rw[eI];have cH:(swT n l[j]).fr=QPx l[j].fr n:=rfl;have oQ:(swT n l[j]).gr=l[j].gr:=rfl;generalize QQl n l j=Q at*;simp[QPZ,Qo,zI,c4,hj,xG,e47,QMC,QPE];unfold QRn;rw[cH];have aX:=QQi (QPx l[j].fr n) Q Q.length;have yS:=QQh (QPx l[j].fr n) Q Q.length;have lI:=QQg (QPx l[j].fr n) Q Q.length;generalize QQH (QPx l[j].fr n) Q Q.length=A at*;generalize hcv:QPx l[j].fr n=cv at*
          (generalize aC:Cx.loop _ _ _=aE; apply Qi aC (λr=>⟨[(0,.d (.sl 5 (b.map QO.enc))),(3,.loc 3 0),(5,.d (DI n)),(7,.bs 81 0 b.length 5),(8,.d (DI q)),(9,.sl 2 (Q.map Qb1.enc) (.tok 9)),(10,.d (DI j)),(11,.loc 11 0),(12,.d (DI ((Q.length - r:Nat):Int)))],[(3,[.d (.v (.int .u8 w.a)),.d (.v (.int .u8 w.b))]),(81,QLh O mm),(11,[.d (DI cv),.d (DI l[j].gr)])],[9],[]⟩) (Q.length - A) (by first | (simp; done) | (simp; rfl) | (simp; simp[*])); rotate_left; (show _ < 281474976710656; omega); rfl; rotate_left; all_goals clear aC)
          .intro r hr;obtain⟨p,hp⟩:∃p,Q.length - r=p+1:=⟨Q.length - r - 1,by omega⟩
           rw[hp,show Q.length - (r+1)=p by omega]
           have dE:p < Q.length:=by omega
           have hpI:(p:Int) < Q.length:=by omega
           have h3:=yS p (by omega) dE
           rw[Qj _ _ _ dE]at h3;have nC:(0:Int) < (p:Int)+1:=by omega
           have wp2:=Qa (p:Int) (by omega) (by omega)
           simp[QPZ,Qo,dE,hpI,h3,nC,wp2,QMC,QPE]
          .rw[show Q.length - (Q.length - A)=A by omega]
           have x1:A+1<=140737488355328:=by omega
           have x2:(A+1)*16<=140737488355328:=by omega
           have x3:A+1+(Q.length - A)<=140737488355328:=by omega
           have x4:(A+1+(Q.length - A))*16<=140737488355328:=by omega
           have x5:A<=140737488355328:=by omega
           have x6:A*16<=140737488355328:=by omega
           have x7:min A Q.length=A:=by omega
           have x8:(A:Int)<=Q.length:=by omega
           have eT:Qb1.enc (swT n l[j])=[DI cv,DI l[j].gr]:=by rw[Qo,cH,oQ]
           have eTd:(Q.map Qb1.enc).drop A=(Q.drop A).map Qb1.enc:=List.map_drop.symm;have eTt:(Q.map Qb1.enc).take A=(Q.take A).map Qb1.enc:=List.map_take.symm;have y1:1+Q.length<=140737488355328:=by omega
           have y2:(1+Q.length)*16<=140737488355328:=by omega
           have y3:(Q.map Qb1.enc).take Q.length=Q.map Qb1.enc:=List.take_of_length_le (by simp)
           have y4:∀p,((Q.map Qb1.enc).drop p).take (Q.length - p)=(Q.map Qb1.enc).drop p:=λp=>List.take_of_length_le (by simp)
           by_cases hA:A=0
           .subst hA;simp[QPZ,Qo,x1,x2,x5,w1,y1,y2,y3,cH,oQ,QMC,QPE]
           .obtain⟨p,rfl⟩:∃p,A=p+1:=⟨A - 1,by omega⟩
            have dE:p < Q.length:=by omega
            have hpI:(p:Int) < Q.length:=by omega
            have h3:=lI (by omega)
            rw[Nat.add_sub_cancel,Qj _ _ _ dE]at h3;have jK:¬cv < Q[p].fr:=by omega
            have nC:(0:Int) < (p:Int)+1:=by omega
            have qS:(0:Int)<=(p:Int)+1:=by omega
            have jP:((p:Int)+1).toNat=p+1:=by omega
            have hz3:(p:Int)+1<=Q.length:=by omega
            have wp2:=Qa (p:Int) (by omega) (by omega)
            simp[QPZ,Qo,dE,hpI,jK,nC,qS,jP,hz3,wp2,x1,x2,x3,x4,x5,x6,x7,w1,y4,cH,oQ,QMC,QPE]
         .have eO:QQl n l l.length=QQY n l:=rfl;rw[eO];simp[QPZ,zI,c4,c6,cW,wq,QMC,QPE]
        .rw[show n+(b.length - n)=b.length by omega,QQZ (by omega)]
         simp[QPZ,QMC,QPE,QT];intro g3 a3 w3 I3;show Code.wpIn _ _ _ _ _ _ _;obtain⟨g4,I4⟩:=QMA cS (b:=81) (t:=7) (n:=b.length) (k:=5) (rows:=(QPG b n).map QO.enc) (tail:=List.replicate mm (.d .top)) rfl rfl (λr hr=>by
          obtain⟨x,_,rfl⟩:=List.mem_map.1 hr; rfl) (by rw[List.length_map,QPy]) fV rfl I3 I3.deferred
         have hOV:=S.valid;have hOl:=QPy b n;have hOv:=QM5 hOV;have hOs:=QNI hOV.ok;have hsi:swN n i < b.length:=(QPJ pA).2 dC;have e47i:=QRi i (n:=n) (by omega)
         have e19:=QyR hs i;have e19O:=QyR hOs (swN n i:Nat);have xZ:=QCO hs i;have e25O:=QCO hOs (swN n i:Nat);rw[QM3 hv dC]at e19;rw[QM3 hOv (by omega),hOl]at e19O
         rw[QNK hv dC]at xZ;rw[QNK hOv (by omega),S.left dC]at e25O
         have y1:=QQP pA (S.comesM i);have y2:=QQP pA (S.comesY i);have l1:(Qc6 (comesM b i) b.length).length < 1000000:=Nat.lt_of_le_of_lt (Qlu _ _) (by omega)
         have l2:(Qc6 (comesY b i) b.length).length < 1000000:=Nat.lt_of_le_of_lt (Qlu _ _) (by omega)
         have f1:∀k,k < b.length->s39 [.sl 1 ((Qc6 (comesM b i) b.length).map Qt.enc),DI k]=some (DB (comesM b i k)):=λk hk=>by
          rw[QNn l1 k,QMw,decide_eq_true hk,Bool.true_and]
         have f2:∀k,k < b.length->s39 [.sl 1 ((Qc6 (comesY b i) b.length).map Qt.enc),DI k]=some (DB (comesY b i k)):=λk hk=>by
          rw[QNn l2 k,QMw,decide_eq_true hk,Bool.true_and]
         have f3:∀k,k < b.length->s39 [.sl 1 ((Qc6 (comesM (QPG b n) (swN n i)) b.length).map Qt.enc),DI (swN n k:Nat)]=some (DB (comesM b i k)):=λk hk=>by
          rw[QNn (by omega) (swN n k:Nat),QMw,decide_eq_true ((QPJ pA).2 hk),Bool.true_and,S.comesM]
         have f4:∀k,k < b.length->s39 [.sl 1 ((Qc6 (comesY (QPG b n) (swN n i)) b.length).map Qt.enc),DI (swN n k:Nat)]=some (DB (comesY b i k)):=λk hk=>by
          rw[QNn (by omega) (swN n k:Nat),QMw,decide_eq_true ((QPJ pA).2 hk),Bool.true_and,S.comesY]
         have e47:∀k:Nat,s47 [DI k,DI n]=some (DI (swN n k:Nat)):=λk=>QRi k (by omega)
         generalize Qc6 (comesM b i) b.length=L1 at*;generalize Qc6 (comesY b i) b.length=L2 at*;generalize Qc6 (comesM (QPG b n) (swN n i)) b.length=L3 at*;generalize Qc6 (comesY (QPG b n) (swN n i)) b.length=L4 at*;generalize QPG b n=O at*;generalize Qj7 b i=v at*;obtain⟨slo,shi⟩:=v;refine QfO cS (by kernel_rfl) (by kernel_rfl) I4 (λ_ _=>rfl) ?_
         simp[Qon,QPZ,QPA,QMG,QGa,s24,Qii,ti,wi,hb0',e47i,e19,e19O,xZ,e25O,y1,y2]
         (generalize aC:Cx.loop _ _ _=aE; apply Qc2 aC (λk=>⟨[(0,.d (.sl 5 (b.map QO.enc))),(5,.d (DI n)),(14,.d (.sl 1 (L1.map Qt.enc))),(15,.d (.sl 1 (L2.map Qt.enc))),(17,.d (.sl 1 (L3.map Qt.enc))),(18,.d (.sl 1 (L4.map Qt.enc))),(24,.d (DI k))],[],[],[]⟩) b.length (by first | (simp; done) | (simp; rfl) | (simp[*]; done) | (simp; simp[*])); rotate_left; (show _ < 281474976710656; omega); (exact λh=>h); rotate_left; all_goals clear aC)
         .intro k hk;have eQ:(k:Int) < b.length:=by omega
          have w1:=Qa ((k:Int)+1) (by omega) (by omega)
          have g1:=f1 k hk;have g2:=f2 k hk;have g3:=f3 k hk;have g4:=f4 k hk;have e5:=e47 k;generalize swN n k=s at*;simp[QPZ,eQ,w1,g1,g2,g3,g4,e5]
         .simp[QPZ,QT];exact λg' a' w' I'=>fin _ _ _ g' a' w' I'
      ·(generalize aC:Cx.loop _ _ _=aE; apply Qc2 aC (λk=>⟨[(0,.d (.sl 5 (b.map QO.enc))),(3,.loc 3 0),(5,.d (DI n)),(6,.d (DI k))],[(3,[.d (.v (.int .u8 w.a)),.d (.v (.int .u8 w.b))])],[],[]⟩) k0 (by first | (simp; done) | (simp; rfl) | (simp[*]; done) | (simp; simp[*])); rotate_left; (show _ < 281474976710656; omega); (exact λh=>h); rotate_left; all_goals clear aC)
       .intro k hk;have bB:k < b[n+1].takes.length:=by omega
        have eQ:(k:Int) < b[n+1].takes.length:=by omega
        have w1:=Qa ((k:Int)+1) (by omega) (by omega)
        have hq:(b[n+1].takes[k].fr==(n:Int))=false:=aM k bB hk;simp[QPZ,Qh,Qo,pA,hnI1,hnz1,hnt1,wp,bB,eQ,w1,hq]
       .have eQ:(k0:Int) < b[n+1].takes.length:=by omega
        simp[QPZ,Qh,Qo,pA,hnI1,hnz1,hnt1,wp,hk0,eQ,aL,QT];exact λg' a' w' I'=>fin _ _ _ g' a' w' I'
 .cases hr
end Go.Proofs.YtnfeakhkfehkhaaGreatDoor
