import Derived.Test.YtiogclkbccdefaaGreatDoorMA2
import Derived.Test.YtiogclkbccdefaaGreatDoorMA1
import Derived.Test.YtiogclkbccdefaaGreatDoorLA5
import Derived.Test.YtiogclkbccdefaaGreatDoorSh
import Derived.Test.YtiogclkbccdefaaGreatDoorProg
set_option linter.unusedSimpArgs false
set_option linter.unusedVariables false
set_option maxRecDepth 100000
section
namespace Go.Proofs.YtiogclkbccdefaaGreatDoor
open Go.RowKit Go.Bo Go.Ab
def QE(c:UInt8):List Tx->Tx
 | []=> []
 | [x]=>x
 |x::y::r=>x++c::QE c (y::r)
theorem ZDb(c:UInt8): ∀l,Lib.join l [c]=QE c l
 | []=>rfl
 | [x]=>by rw[Lib.join_one];rfl
 |x::y::r=>by
  have:=ZDb c (y::r);simp only[Lib.join,List.intercalate,List.intersperse_cons_cons,ZRk,QE]at this|-;rw[this];rfl
theorem ZAx(c:UInt8){x:Tx}{l:List Tx}(h:l≠ []):QE c (x::l)=x++c::QE c l:=by
 cases l with
 |nil=>exact absurd rfl h
 |cons y r=>rfl
theorem ZJd(c:UInt8): ∀(l:List Tx) (x:Tx),l≠ []->QE c (l++ [x])=QE c l++ [c]++x
 | [],x,h=>absurd rfl h
 | [y],x,_=>by simp[QE]
 |y::z::r,x,_=>by
  have:=ZJd c (z::r) x J1;have e:QE c (y::z::r)=y++c::QE c (z::r):=rfl;have e2:QE c (y::(z::r++ [x]))=y++c::QE c (z::r++ [x]):=ZAx c J1;rw[Qx,e2,this,e];simp
theorem ZE0(c:UInt8)(m:Nat): ∀l:List Tx,(∀x∈l,x.length<=m)->(QE c l).length<=l.length*(m+1)
 | [],_=>by simp[QE]
 | [x],h=>by have:=h x J1;simp[QE];omega
 |x::y::r,h=>by
  have h1:=ZE0 c m (y::r) (λz hz=>h z (ξZ _ hz));have h2:=h x J1;rw[ZAx c J1,Zf,JD,JD,Yt];omega
theorem ZJU(l:List Tx)(x:Tx):rows ZB l++ [[X.str x]]=rows ZB (l++ [x]):=by simp[rows,ZB]
def QU(p:Av):Tx:=p.1++ [61]++ZC8 p.2
def Yq(r:List Av):Tx:=QE 43 (r.map QU)
def KY(d:Dn):Tx:=QE 44 (d.map Yq)
def QT(d:Dn):Tx×Int:=if Je d≠0 then([],Je d)else if(KY d).length>4096 then([],3)else(KY d,0)
theorem ZRQ(r:List Av): ∀(n j:Nat),okP r n=true->j<n->ZAB r j=true
 |n+1,j,h,hj=>by
  rw[okP,ZS]at h;by_cases e:j=n
  .subst e;exact h.2
  .exact ZRQ r n j h.1 J0
theorem ZBW{r:List Av}(h:Yk r=true):r.length<=8/\1<=r.length/\ ∀p∈r,p.1.length<=64/\p.2.length<=256:=by
 unfold Yk at h;rw[ZS,Zd]at h;refine⟨h.2.2,h.2.1,λp hp=> ?_⟩;obtain⟨j,hj,rfl⟩:=ZWZ hp;have h1:=ZRQ r r.length j h.1 hj;unfold ZAB at h1;rw[ZPR,show r.getD j ([],[])=r[j] by simp[hj]]at h1;simp only[ZS,Zd]at h1;exact⟨h1.1.1.2,h1.2.2.1⟩
theorem ZD3{d:Dn}(h:Je d=0):d.length<=32/\ ∀r∈d,Yk r=true:=by
 unfold Je at h;split at h
 .cases h
 .split at h
  .rename_i h2;exact⟨J0,Yd.1 h2⟩
  .cases h
theorem ZRA{p:Av}(h:p.1.length<=64/\p.2.length<=256):(QU p).length<=840:=by
 have:=ZEx p.2 p.2.length;unfold QU ZC8;simp only[Zf,JD,ξN];omega
theorem ZJI{r:List Av}(h:Yk r=true):(Yq r).length<=6800:=by
 obtain⟨h1,-,h2⟩:=ZBW h;have:=ZE0 43 840 (r.map QU) (λx hx=>by obtain⟨p,hp,rfl⟩:=YO.1 hx;exact ZRA (h2 p hp));rw[YX]at this;unfold Yq;omega
theorem Zcs{d:Dn}(h:Je d=0):(KY d).length<=250000:=by
 obtain⟨h1,h2⟩:=ZD3 h;have:=ZE0 44 6800 (d.map Yq) (λx hx=>by obtain⟨r,hr,rfl⟩:=YO.1 hx;exact ZJI (h2 r hr));rw[YX]at this;unfold KY;omega
def ZEf:Tabs:=Jz (ZT (ZT (ZT (ZO) 161 ZDS) 177 ZIp) 77 ZAU) 77 (ZAE ZAU)
theorem ZU7:SsOk Tryz.prog ZEf:=JE (ZH (ZH (ZH (ZF) (ZW 161) ZPv) (ZW 177) ZYP) ZE6 ZGc) ZE6 (ZDv ZGc)
theorem ZXR:(∀a,ZEf.q 161 a=ZDS a)/\(∀a,ZEf.q 177 a=ZIp a)/\(∀a,ZEf.q 77 a=ZAU a)/\(∀a o,ZEf.t 77 a o=Yx (ZAE ZAU) a o)/\(∀f a o,ZEf.r f a o=none)/\(∀f a o,ZEf.k f a o=none):=⟨λ_=>rfl,λ_=>rfl,λ_=>rfl,λ_ _=>rfl,λ_ _ _=>rfl,λ_ _ _=>rfl⟩
set_option maxHeartbeats 1000000 in
theorem Zgd(d:Dn)(hb:smD d):ZC Tryz.prog 144 [.x (.sl (rows JU d))] (.tup [.x (.str (QT d).1),.x (.int .i64 (QT d).2)]):=by
 rcases hq:QT d with⟨u,e⟩
 unfold QT at hq;have hsd:decide (smD d)=true:=ZL hb;refine ZI.pure (fC 144 true ?_) rfl;intro C0 E0;have uu:=KT @ZDS.eq_1 @ZDS.eq_2 @ZIp.eq_1 @ZIp.eq_2 @ZAU.eq_1 @ZAU.eq_2 @ZLK @ZOb (JX hsd @ZXR @ZAE.eq_1);have tT:=ZU7;refine nz ?_;refine WI.regB tT [0] ?_
 iterate 2 refine oS ?_
 refine oN ?_;refine nz ?_;refine WI.regB tT [0,4] ?_;refine oS ?_;refine oC (hok:=by first|exact se|(exact ZL J0)|(exact ZL (by simp;omega))|exact sd) ?_;refine oS ?_;refine oN ?_;refine nz ?_;refine WI.regB tT [0,4,15] ?_;refine oS ?_;refine oG (hok:=by first|exact se|(exact ZL J0)|(exact ZL (by simp;omega))|exact sd) ?_;refine oN ?_;refine nz ?_;refine cd (λh0=> ?_) (λh0=> ?_)
 .refine WI.regB tT [2,3] ?_
  iterate 3 refine oS ?_
  refine oN ?_;refine nz ?_;refine lf ?_;rw[if_pos (by simpa using h0)]at hq;cases hq;rfl
 .rw[if_neg (by simpa using h0)]at hq;have hck:Je d=0:=by simpa using h0
  obtain⟨hd32,hmay⟩:=ZD3 hck;refine WI.regB tT [0,5] ?_;refine oS ?_;refine oN ?_;refine nz ?_;refine WI.regB tT [5,17,18,19] ?_;refine oS ?_;refine oG (hok:=by first|exact se|(exact ZL J0)|(exact ZL (by simp;omega))|exact sd) ?_;refine oS ?_;refine oN ?_;refine nz ?_;refine WI.ownA 5 9 1 ?_;refine WI.loop (λφ os=> ∃(j:Nat),φ= [(5,.ref 0 j 0 j),(17,.x (.sl (rows JU d))),(18,.x (.int .i64 d.length)),(19,.x (.int .i64 j))]/\os= [.rows false 9 1 (rows ZB ((d.take j).map Yq))]/\j<=d.length) (ZK d.length 19) ?_ (λφ os hI=> ?_)
  .exact⟨0,rfl,rfl,J0⟩
  .obtain⟨j,rfl,rfl,hj⟩:=hI;refine nz ?_;refine WI.regB tT [5,17,18,19,20] ?_;refine oG (hok:=by first|exact se|(exact ZL J0)|(exact ZL (by simp;omega))|exact sd) ?_;refine oN ?_;refine nz ?_;refine cd (λh1=> ?_) (λh1=> ?_)
   .have hj4:j<d.length:=by omega
    have hmj:Yk (d.getD j [])=true:=by rw[show d.getD j []=d[j] by simp[hj4]];exact hmay _ (YZ hj4)
    obtain⟨hr8,-,hpb⟩:=ZBW hmj;have hpl:=ZJI hmj;have hst:(d.take (j+1)).map Yq=(d.take j).map Yq++ [Yq (d.getD j [])]:=by rw[Jk hj4,Jt,show d.getD j []=d[j] by simp[hj4]];rfl
    have hrow:=ZEc d j hj4;generalize d.getD j []=r at hmj hr8 hpb hpl hst hrow|-;have uu:=Ya uu hrow;refine WI.regB tT [5,7,17,18,19] ?_
    iterate 2 refine oG (hok:=by first|exact se|(exact ZL J0)|(exact ZL (by simp;omega))|exact sd) ?_
    refine oS ?_;refine oN ?_;refine nz ?_;refine WI.regB tT [5,7,8,17,18,19] ?_;refine oS ?_;refine oN ?_;refine nz ?_;refine WI.regB tT [5,8,17,18,19,23,24,25] ?_;refine oS ?_;refine oG (hok:=by first|exact se|(exact ZL J0)|(exact ZL (by simp;omega))|exact sd) ?_;refine oS ?_;refine oN ?_;refine nz ?_;refine WI.ownA 8 9 1 ?_;refine WI.orderA [5,8,17,18,19,23,24,25] ?_;refine WI.loop (λφ os=> ∃(k:Nat),φ= [(5,.ref 0 j 0 j),(8,.ref 1 k 0 k),(17,.x (.sl (rows JU d))),(18,.x (.int .i64 d.length)),(19,.x (.int .i64 j)),(23,.x (.sl (rows Zo r))),(24,.x (.int .i64 r.length)),(25,.x (.int .i64 k))]/\os= [.rows false 9 1 (rows ZB ((d.take j).map Yq)),.rows false 9 1 (rows ZB ((r.take k).map QU))]/\k<=r.length) (ZK r.length 25) ?_ (λφ os hI=> ?_)
    .exact⟨0,rfl,rfl,J0⟩
    .obtain⟨k,rfl,rfl,hk⟩:=hI;refine nz ?_;refine WI.regB tT [5,8,17,18,19,23,24,25,26] ?_;refine oG (hok:=by first|exact se|(exact ZL J0)|(exact ZL (by simp;omega))|exact sd) ?_;refine oN ?_;refine nz ?_;refine cd (λh2=> ?_) (λh2=> ?_)
     .have hk4:k<r.length:=by omega
      have har:=ZCw r k hk4;have hpk:(r.getD k ([],[])).1.length<=64/\(r.getD k ([],[])).2.length<=256:=by rw[show r.getD k ([],[])=r[k] by simp[hk4]];exact hpb _ (YZ hk4)
      have hel:=ZEx (r.getD k ([],[])).2 (r.getD k ([],[])).2.length;have hel2:(ZC8 (r.getD k ([],[])).2).length<=800:=by unfold ZC8;omega
      have hsk:(r.take (k+1)).map QU=(r.take k).map QU++ [QU (r.getD k ([],[]))]:=by rw[Jk hk4,Jt,show r.getD k ([],[])=r[k] by simp[hk4]];rfl
      have hsc:decide ((r.getD k ([],[])).2.length<=1000000)=true:=ZL J0;have uu:=JX uu har hsc;refine WI.regB tT [5,8,10,17,18,19,23,24,25] ?_
      iterate 2 refine oG (hok:=by first|exact se|(exact ZL J0)|(exact ZL (by simp;omega))|exact sd) ?_
      refine oG ?_;refine oG (hok:=by first|exact se|(exact ZL J0)|(exact ZL (by simp;omega))|exact sd) ?_;refine oN ?_;refine nz ?_;refine WI.post ?_;refine WI.dregB tT [5,8,17,18,19,23,24,25] ?_
      iterate 2 refine Zs ?_
      refine Yp (hok:=by first|exact se|(exact ZL J0)|(exact ZL (by simp;omega))|exact sd) ?_;refine Jq (hok:=by first|exact se|(exact ZL J0)|(exact ZL (by simp;omega))|exact sd) ?_;refine Zs ?_;refine Yp (hok:=by first|exact se|(exact ZL J0)|(exact ZL (by simp;omega))|exact sd) ?_;refine dQC (hok:=by first|exact se|(exact ZL J0)|(exact ZL (by simp;omega))|exact sd) ?_;refine Jq (hok:=by first|exact se|(exact ZL J0)|(exact ZL (by simp;omega))|exact sd) ?_
      iterate 2 refine dAG (hok:=by first|exact se|(exact ZL J0)|(exact ZL (by simp;omega))|exact sd) ?_
      refine Zs ?_;refine dP ?_;refine Jf [0,1] ?_;refine KR ?_;refine nz ?_;refine WI.regB tT [5,8,17,18,19,23,24,25] ?_;refine oG (hok:=by first|exact se|(exact ZL J0)|(exact ZL (by simp;omega))|exact sd) ?_;refine oS ?_;refine oN ?_;refine nz ?_;exact⟨⟨k+1,rfl,by rw[hsk,<-ZJU];first|done|rfl,J0⟩,by simp[ZK,Ab.get,D.val,ZD];omega⟩
     .obtain rfl:k=r.length:=by omega
      rw[Jm];have hjl:decide ((Lib.join (r.map QU) [43]).length<=140737488355328/\(r.map QU).length<=140737488355328)=true:=ZL ⟨by rw[ZDb];unfold Yq at hpl;omega,by rw[YX];omega⟩;have e1:(r.map QU).length=r.length:=YX ..;have e2:(r.map QU).take r.length=r.map QU:=Yi J0;have e3:Lib.join (r.map QU) [43]=Yq r:=ZDb 43 _;have uu:=ξ5 uu e1 e2 hjl e3;refine WI.post ?_;refine WI.regB tT [5,17,18,19] ?_
      iterate 2 refine oS ?_
      refine oC (hok:=by first|exact se|(exact ZL J0)|(exact ZL (by simp;omega))|exact sd) ?_
      iterate 2 refine oG (hok:=by first|exact se|(exact ZL J0)|(exact ZL (by simp;omega))|exact sd) ?_
      refine oS ?_;refine oP ?_;refine Jf [0] ?_;refine KR ?_;refine nz ?_;refine WI.orderA [5,17,18,19] ?_;refine WI.regB tT [5,17,18,19] ?_;refine oG (hok:=by first|exact se|(exact ZL J0)|(exact ZL (by simp;omega))|exact sd) ?_;refine oS ?_;refine oN ?_;refine nz ?_;exact⟨⟨j+1,rfl,by rw[hst,<-ZJU];first|done|rfl,J0⟩,by simp[ZK,Ab.get,D.val,ZD];omega⟩
   .obtain rfl:j=d.length:=by omega
    rw[Jm];have hnl:=Zcs hck;have hjl:decide ((Lib.join (d.map Yq) [44]).length<=140737488355328/\(d.map Yq).length<=140737488355328)=true:=ZL ⟨by rw[ZDb];unfold KY at hnl;omega,by rw[YX];omega⟩;have e1:(d.map Yq).length=d.length:=YX ..;have e2:(d.map Yq).take d.length=d.map Yq:=Yi J0;have e3:Lib.join (d.map Yq) [44]=KY d:=ZDb 44 _;have uu:=ξ5 uu e1 e2 hjl e3;refine WI.regB tT [11] ?_;refine oS ?_;refine oC (hok:=by first|exact se|(exact ZL J0)|(exact ZL (by simp;omega))|exact sd) ?_;refine oS ?_;refine oN ?_;refine nz ?_;refine WI.regB tT [11,50] ?_;refine oS ?_
    iterate 2 refine oG (hok:=by first|exact se|(exact ZL J0)|(exact ZL (by simp;omega))|exact sd) ?_
    refine oN ?_;refine nz ?_;refine cd (λh3=> ?_) (λh3=> ?_)
    .refine WI.regB tT [2,3] ?_
     iterate 2 refine oS ?_
     refine oN ?_;refine nz ?_;refine lf ?_;rw[if_pos J0]at hq;cases hq;rfl
    .refine WI.regB tT [2,3] ?_
     iterate 3 refine oS ?_
     refine oN ?_;refine nz ?_;refine lf ?_;rw[if_neg J0]at hq;cases hq;rfl
def Qm:J8->J5
 | [.x (.sl R)]=>(Zb JU R).bind λd=>some (decide (smD d),.tup [.x (.str (QT d).1),.x (.int .i64 (QT d).2)])
 |_=>none
theorem ZGk: ∀args r,Qm args=some (true,r)->ZC Tryz.prog 144 args r:=by
 intro args r h;unfold Qm at h;split at h
 .rename_i R;obtain⟨d,hr0,h⟩:=Zv h;simp only[Ze,ZZ,ZS,Zd,true_and]at h;obtain⟨h1,rfl⟩:=h;rw[<-Za ZD5 hr0];exact(Zgd d h1)
 .cases h
def ZLz:Tabs:=ZT (ZO) 140 ZIN
theorem ZV6:SsOk Tryz.prog ZLz:=ZH (ZF) (ZW 140) ZYV
theorem ZXz:(∀a,ZLz.q 140 a=ZIN a)/\(∀f a o,ZLz.r f a o=none)/\(∀f a o,ZLz.k f a o=none):=⟨λ_=>rfl,λ_ _ _=>rfl,λ_ _ _=>rfl⟩
theorem ZPY(r:List Av)(k:Nat)(h:k<r.length):Yq (r.take (k+1))=(if k=0 then []else Yq (r.take k)++ [43])++QU (r.getD k ([],[])):=by
 have e:(r.take (k+1)).map QU=(r.take k).map QU++ [QU (r.getD k ([],[]))]:=by rw[Jk h,Jt,show r.getD k ([],[])=r[k] by simp[h]];rfl
 unfold Yq;rw[e];split
 .rename_i h0;subst h0;simp[QE]
 .rw[ZJd _ _ _ (by intro hh;have:=congrArg List.length hh;rw[YX,JA,ξN]at this;omega)]
theorem ZfV(r:List Av)(hr:Yk r=true):ZC Tryz.prog 94 [.x (.sl (rows Zo r))] (.x (.str (Yq r))):=by
 obtain⟨hr8,-,hpb⟩:=ZBW hr;have hpl: ∀k,(Yq (r.take k)).length<=6800:=λk=>by
  have:=ZE0 43 840 ((r.take k).map QU) (λx hx=>by obtain⟨p,hp,rfl⟩:=YO.1 hx;exact ZRA (hpb p (ZB8 hp)));rw[YX,JA]at this;have h2:min k r.length<=8:=by omega
  unfold Yq;omega
 refine ZI.pure (fC 94 true ?_) rfl;intro C0 E0;have uu:=JX @ZIN.eq_1 @ZIN.eq_2 @ZXz;have tT:=ZV6;refine nz ?_;refine WI.regB tT [0] ?_;refine oS ?_;refine oN ?_;refine nz ?_;refine WI.regB tT [0,3] ?_;refine oS ?_;refine oN ?_;refine nz ?_;refine WI.regB tT [0,3,4] ?_;refine oS ?_;refine oN ?_;refine nz ?_;refine WI.loop (λφ os=> ∃(k:Nat),φ= [(0,.x (.sl (rows Zo r))),(3,.x (.str (Yq (r.take k)))),(4,.x (.int .i64 k))]/\os= []/\k<=r.length) (ZK r.length 4) ?_ (λφ os hI=> ?_)
 .exact⟨0,rfl,rfl,J0⟩
 .obtain⟨k,rfl,rfl,hk⟩:=hI;refine nz ?_;refine WI.regB tT [0,3,4,8] ?_
  iterate 2 refine oS ?_
  iterate 2 refine oG (hok:=by first|exact se|(exact ZL J0)|(exact ZL (by simp;omega))|exact sd) ?_
  refine oN ?_;refine nz ?_;refine cd (λh0=> ?_) (λh0=> ?_)
  .have hk4:k<r.length:=by omega
   have hlk:=hpl k;have har:=ZCw r k hk4;have hpk:(r.getD k ([],[])).1.length<=64/\(r.getD k ([],[])).2.length<=256:=by rw[show r.getD k ([],[])=r[k] by simp[hk4]];exact hpb _ (YZ hk4)
   have hel:=ZEx (r.getD k ([],[])).2 (r.getD k ([],[])).2.length;have hel2:(ZC8 (r.getD k ([],[])).2).length<=800:=by unfold ZC8;omega
   have hsc:decide ((r.getD k ([],[])).2.length<=1000000)=true:=ZL J0;have uu:=JX uu har hsc;refine WI.regB tT [0,3,4,12] ?_;refine oS ?_;refine oG (hok:=by first|exact se|(exact ZL J0)|(exact ZL (by simp;omega))|exact sd) ?_;refine oN ?_;refine nz ?_;refine cd (λh1=> ?_) (λh1=> ?_)
   .have hst:Yq (r.take (k+1))=Yq (r.take k)++ [43]++(r.getD k ([],[])).1++ [61]++ZC8 (r.getD k ([],[])).2:=by rw[ZPY r k hk4,if_neg J0];unfold QU;simp
    refine WI.regB tT [0,3,4] ?_;refine oS ?_;refine oG (hok:=by first|exact se|(exact ZL J0)|(exact ZL (by simp;omega))|exact sd) ?_;refine oS ?_;refine oN ?_;refine nz ?_;refine WI.dregB tT [0,3,4] ?_
    iterate 3 refine Zs ?_
    refine Yp (hok:=by first|exact se|(exact ZL J0)|(exact ZL (by simp;omega))|exact sd) ?_;refine Zs ?_;refine Yp (hok:=by first|exact se|(exact ZL J0)|(exact ZL (by simp;omega))|exact sd) ?_
    iterate 2 refine Jq (hok:=by first|exact se|(exact ZL J0)|(exact ZL (by simp;omega))|exact sd) ?_
    iterate 2 refine Zs ?_
    refine Yp (hok:=by first|exact se|(exact ZL J0)|(exact ZL (by simp;omega))|exact sd) ?_;refine Zs ?_;refine Yp (hok:=by first|exact se|(exact ZL J0)|(exact ZL (by simp;omega))|exact sd) ?_;refine dQC (hok:=by first|exact se|(exact ZL J0)|(exact ZL (by simp;omega))|exact sd) ?_;refine Jq (hok:=by first|exact se|(exact ZL J0)|(exact ZL (by simp;omega))|exact sd) ?_;refine Zs ?_;refine dN ?_;refine nz ?_;refine WI.regB tT [0,3,4] ?_;refine oS ?_;refine oG (hok:=by first|exact se|(exact ZL J0)|(exact ZL (by simp;omega))|exact sd) ?_;refine oS ?_;refine oN ?_;refine nz ?_;exact⟨⟨k+1,by rw[hst];first|done|rfl,rfl,J0⟩,by simp[ZK,Ab.get,D.val,ZD];omega⟩
   .have hst:Yq (r.take (k+1))=Yq (r.take k)++(r.getD k ([],[])).1++ [61]++ZC8 (r.getD k ([],[])).2:=by
     rw[ZPY r k hk4,if_pos J0];obtain rfl:k=0:=by omega
     unfold QU;simp[Yq,QE]
    refine WI.dregB tT [0,3,4] ?_
    iterate 3 refine Zs ?_
    refine Yp (hok:=by first|exact se|(exact ZL J0)|(exact ZL (by simp;omega))|exact sd) ?_;refine Zs ?_;refine Yp (hok:=by first|exact se|(exact ZL J0)|(exact ZL (by simp;omega))|exact sd) ?_
    iterate 2 refine Jq (hok:=by first|exact se|(exact ZL J0)|(exact ZL (by simp;omega))|exact sd) ?_
    iterate 2 refine Zs ?_
    refine Yp (hok:=by first|exact se|(exact ZL J0)|(exact ZL (by simp;omega))|exact sd) ?_;refine Zs ?_;refine Yp (hok:=by first|exact se|(exact ZL J0)|(exact ZL (by simp;omega))|exact sd) ?_;refine dQC (hok:=by first|exact se|(exact ZL J0)|(exact ZL (by simp;omega))|exact sd) ?_;refine Jq (hok:=by first|exact se|(exact ZL J0)|(exact ZL (by simp;omega))|exact sd) ?_;refine Zs ?_;refine dN ?_;refine nz ?_;refine WI.regB tT [0,3,4] ?_;refine oS ?_;refine oG (hok:=by first|exact se|(exact ZL J0)|(exact ZL (by simp;omega))|exact sd) ?_;refine oS ?_;refine oN ?_;refine nz ?_;exact⟨⟨k+1,by rw[hst];first|done|rfl,rfl,J0⟩,by simp[ZK,Ab.get,D.val,ZD];omega⟩
  .refine WI.regB tT [2] ?_
   iterate 2 refine oS ?_
   refine oN ?_;refine nz ?_;refine lf ?_;obtain rfl:k=r.length:=by omega
   rw[Jm]
def ZDT:J8->J5
 | [.x (.sl R)]=>(Zb Zo R).bind λr=>some (decide (Yk r=true),.x (.str (Yq r)))
 |_=>none
theorem ZQP: ∀args r,ZDT args=some (true,r)->ZC Tryz.prog 94 args r:=by
 intro args r h;unfold ZDT at h;split at h
 .rename_i R;obtain⟨r,hr0,h⟩:=Zv h;simp only[Ze,ZZ,ZS,Zd,true_and]at h;obtain⟨h1,rfl⟩:=h;rw[<-Za ZDx hr0];exact(ZfV r h1)
 .cases h
theorem ZPU(d:Dn)(k:Nat)(h:k<d.length):KY (d.take (k+1))=(if k=0 then []else KY (d.take k)++ [44])++Yq (d.getD k []):=by
 have e:(d.take (k+1)).map Yq=(d.take k).map Yq++ [Yq (d.getD k [])]:=by rw[Jk h,Jt,show d.getD k []=d[k] by simp[h]];rfl
 unfold KY;rw[e];split
 .rename_i h0;subst h0;simp[QE]
 .rw[ZJd _ _ _ (by intro hh;have:=congrArg List.length hh;rw[YX,JA,ξN]at this;omega)]
def ZIJ:Tabs:=ZT (ZT (ZO) 139 ZDW) 94 ZDT
theorem ZWb:SsOk Tryz.prog ZIJ:=ZH (ZH (ZF) (ZW 139) ZQZ) (ZW 94) ZQP
theorem ZY4:(∀a,ZIJ.q 139 a=ZDW a)/\(∀a,ZIJ.q 94 a=ZDT a)/\(∀f a o,ZIJ.r f a o=none)/\(∀f a o,ZIJ.k f a o=none):=⟨λ_=>rfl,λ_=>rfl,λ_ _ _=>rfl,λ_ _ _=>rfl⟩
theorem Zfd(d:Dn)(hb:smD d)(hld:d.length<=1000000)(hlr: ∀r∈d,r.length<=1000000):ZC Tryz.prog 105 [.x (.sl (rows JU d))] (.tup [.x (.str (QT d).1),.x (.int .i64 (QT d).2)]):=by
 rcases hq:QT d with⟨u,e⟩
 unfold QT at hq;have hsd:(decide (smD d)&&(decide (d.length<=1000000)&&decide (∀r∈d,r.length<=1000000)))=true:=by rw[ZL hb,ZL hld,ZL hlr];rfl
 refine ZI.pure (fC 105 true ?_) rfl;intro C0 E0;have uu:=ξ8 @ZDW.eq_1 @ZDW.eq_2 @ZDT.eq_1 @ZDT.eq_2 @ZLK @ZOb hsd @ZY4;have tT:=ZWb;refine nz ?_;refine WI.regB tT [0] ?_
 iterate 2 refine oS ?_
 refine oN ?_;refine nz ?_;refine WI.regB tT [0,4] ?_;refine oS ?_;refine oC (hok:=by first|exact se|(exact ZL J0)|(exact ZL (by simp;omega))|exact sd) ?_;refine oS ?_;refine oN ?_;refine nz ?_;refine WI.regB tT [0,4,10] ?_;refine oS ?_;refine oG (hok:=by first|exact se|(exact ZL J0)|(exact ZL (by simp;omega))|exact sd) ?_;refine oN ?_;refine nz ?_;refine cd (λh0=> ?_) (λh0=> ?_)
 .refine WI.regB tT [2,3] ?_
  iterate 3 refine oS ?_
  refine oN ?_;refine nz ?_;refine lf ?_;rw[if_pos (by simpa using h0)]at hq;cases hq;rfl
 .rw[if_neg (by simpa using h0)]at hq;have hck:Je d=0:=by simpa using h0
  obtain⟨hd32,hmay⟩:=ZD3 hck;have hpl: ∀k,(KY (d.take k)).length<=250000:=λk=>by
   have:=ZE0 44 6800 ((d.take k).map Yq) (λx hx=>by obtain⟨p,hp,rfl⟩:=YO.1 hx;exact ZJI (hmay p (ZB8 hp)));rw[YX,JA]at this;have h2:min k d.length<=32:=by omega
   unfold KY;omega
  refine WI.regB tT [0,5] ?_;refine oS ?_;refine oN ?_;refine nz ?_;refine WI.regB tT [0,5,6] ?_;refine oS ?_;refine oN ?_;refine nz ?_;refine WI.loop (λφ os=> ∃(k:Nat),φ= [(0,.x (.sl (rows JU d))),(5,.x (.str (KY (d.take k)))),(6,.x (.int .i64 k))]/\os= []/\k<=d.length) (ZK d.length 6) ?_ (λφ os hI=> ?_)
  .exact⟨0,rfl,rfl,J0⟩
  .obtain⟨k,rfl,rfl,hk⟩:=hI;refine nz ?_;refine WI.regB tT [0,5,6,15] ?_
   iterate 2 refine oS ?_
   iterate 2 refine oG (hok:=by first|exact se|(exact ZL J0)|(exact ZL (by simp;omega))|exact sd) ?_
   refine oN ?_;refine nz ?_;refine cd (λh1=> ?_) (λh1=> ?_)
   .have hk4:k<d.length:=by omega
    have hlk:=hpl k;have hrow:=ZEc d k hk4;have hmk:Yk (d.getD k [])=true:=by rw[show d.getD k []=d[k] by simp[hk4]];exact hmay _ (YZ hk4)
    have hpk:=ZJI hmk;have uu:=JX uu hrow (ZL hmk);refine WI.regB tT [0,5,6,19] ?_;refine oS ?_;refine oG (hok:=by first|exact se|(exact ZL J0)|(exact ZL (by simp;omega))|exact sd) ?_;refine oN ?_;refine nz ?_;refine cd (λh2=> ?_) (λh2=> ?_)
    .have hst:KY (d.take (k+1))=KY (d.take k)++ [44]++Yq (d.getD k []):=by rw[ZPU d k hk4,if_neg J0]
     refine WI.regB tT [0,5,6] ?_;refine oS ?_;refine oG (hok:=by first|exact se|(exact ZL J0)|(exact ZL (by simp;omega))|exact sd) ?_;refine oS ?_;refine oN ?_;refine nz ?_;refine WI.regB tT [0,5,6] ?_
     iterate 3 refine oS ?_
     iterate 2 refine oG (hok:=by first|exact se|(exact ZL J0)|(exact ZL (by simp;omega))|exact sd) ?_
     refine oC (hok:=by first|exact se|(exact ZL J0)|(exact ZL (by simp;omega))|exact sd) ?_;refine oG (hok:=by first|exact se|(exact ZL J0)|(exact ZL (by simp;omega))|exact sd) ?_;refine oS ?_;refine oN ?_;refine nz ?_;refine WI.regB tT [0,5,6] ?_;refine oS ?_;refine oG (hok:=by first|exact se|(exact ZL J0)|(exact ZL (by simp;omega))|exact sd) ?_;refine oS ?_;refine oN ?_;refine nz ?_;exact⟨⟨k+1,by rw[hst];first|done|rfl,rfl,J0⟩,by simp[ZK,Ab.get,D.val,ZD];omega⟩
    .have hst:KY (d.take (k+1))=KY (d.take k)++Yq (d.getD k []):=by
      rw[ZPU d k hk4,if_pos J0];obtain rfl:k=0:=by omega
      simp[KY,QE]
     refine WI.regB tT [0,5,6] ?_
     iterate 3 refine oS ?_
     iterate 2 refine oG (hok:=by first|exact se|(exact ZL J0)|(exact ZL (by simp;omega))|exact sd) ?_
     refine oC (hok:=by first|exact se|(exact ZL J0)|(exact ZL (by simp;omega))|exact sd) ?_;refine oG (hok:=by first|exact se|(exact ZL J0)|(exact ZL (by simp;omega))|exact sd) ?_;refine oS ?_;refine oN ?_;refine nz ?_;refine WI.regB tT [0,5,6] ?_;refine oS ?_;refine oG (hok:=by first|exact se|(exact ZL J0)|(exact ZL (by simp;omega))|exact sd) ?_;refine oS ?_;refine oN ?_;refine nz ?_;exact⟨⟨k+1,by rw[hst];first|done|rfl,rfl,J0⟩,by simp[ZK,Ab.get,D.val,ZD];omega⟩
   .obtain rfl:k=d.length:=by omega
    have hlk:=hpl d.length;rw[Jm]at hlk|-;refine WI.regB tT [5,31] ?_;refine oS ?_
    iterate 2 refine oG (hok:=by first|exact se|(exact ZL J0)|(exact ZL (by simp;omega))|exact sd) ?_
    refine oN ?_;refine nz ?_;refine cd (λh3=> ?_) (λh3=> ?_)
    .refine WI.regB tT [2,3] ?_
     iterate 2 refine oS ?_
     refine oN ?_;refine nz ?_;refine lf ?_;rw[if_pos J0]at hq;cases hq;rfl
    .refine WI.regB tT [2,3] ?_
     iterate 3 refine oS ?_
     refine oN ?_;refine nz ?_;refine lf ?_;rw[if_neg J0]at hq;cases hq;rfl
def ZHK:J8->J5
 | [.x (.sl R)]=>(Zb JU R).bind λd=>some (decide (smD d)&&(decide (d.length<=1000000)&&(decide (∀r∈d,r.length<=1000000))),.tup [.x (.str (QT d).1),.x (.int .i64 (QT d).2)])
 |_=>none
theorem ZSa: ∀args r,ZHK args=some (true,r)->ZC Tryz.prog 105 args r:=by
 intro args r h;unfold ZHK at h;split at h
 .rename_i R;obtain⟨d,hr0,h⟩:=Zv h;simp only[Ze,ZZ,ZS,Zd,true_and]at h;obtain⟨⟨h1,h2,h3⟩,rfl⟩:=h;rw[<-Za ZD5 hr0];exact(Zfd d h1 h2 h3)
 .cases h
end Go.Proofs.YtiogclkbccdefaaGreatDoor
end
section
namespace Go.Proofs
open Go.Shelf Go.RowKit Go.Lib Go.Sort
def encAv(x:ByteArray×ByteArray):List Value:= [.string x.1,.string x.2]
def cmpS(a b:ByteArray):Int:=if Op.bytesLess a.toList b.toList=true then-1 else if Op.bytesLess b.toList a.toList=true then 1 else 0
def cmpAv(x y:ByteArray×ByteArray):Int:=cmpS x.1 y.1
theorem ZaJ(s:ByteArray)(W:World):Calls Tryz.prog 129 #[.string s] W λe w'=>e= .returned (.bool false)/\w'=W:=by
 go_enter Tryz.func129,Tryz.ntmps129
 go_wp2
 go_ret
 exact⟨J1,rfl⟩
theorem cmpS_c(a b:ByteArray)(W:World):Calls Tryz.prog 82 #[.string a,.string b] W λe w'=>e= .returned (.int .i64 (cmpS a b))/\w'=W:=by
 go_enter Tryz.func82,Tryz.ntmps82
 go_wp2_with (go_at_call 129;refine(ZaJ _ _).mono ?_;rintro e w' ⟨rfl,hw⟩;rw[hw])
 all_goals(go_ret;refine⟨?_,rfl⟩;unfold cmpS;(repeat' split)<;>first|rfl|(exfalso;simp_all;done)|(exfalso;rcases YtiogclkbccdefaaGreatDoor.bl_tot a.toList b.toList (by simp_all)with hh|hh<;>simp_all))
theorem ltAv(x y:ByteArray×ByteArray):ltOf cmpAv x y=Op.bytesLess x.1.toList y.1.toList:=by
 unfold ltOf cmpAv cmpS;cases h:Op.bytesLess x.1.toList y.1.toList<;>cases h2:Op.bytesLess y.1.toList x.1.toList<;>simp
theorem swoAv:SWO (ltOf cmpAv) where
 irrefl x:=by rw[ltAv];exact YtiogclkbccdefaaGreatDoor.bl_irr _
 trans x y z h1 h2:=by rw[ltAv]at*;exact YtiogclkbccdefaaGreatDoor.bl_trans _ _ _ h1 h2
 ntrans x y z h1 h2:=by
  rw[ltAv]at*;cases h:Op.bytesLess x.1.toList z.1.toList with
  |false=>rfl
  |true=>
   by_cases e1:x.1.toList=y.1.toList
   .rw[e1]at h;rw[h]at h2;cases h2
   .rcases YtiogclkbccdefaaGreatDoor.bl_tot _ _ e1 with h3|h3
    .rw[h3]at h1;cases h1
    .have:=YtiogclkbccdefaaGreatDoor.bl_trans _ _ _ h3 h;rw[this]at h2;cases h2
theorem ZgQ(x y:ByteArray×ByteArray)(W:World):Calls Tryz.prog 143 #[.agg #[.string x.1,.string x.2],.agg #[.string y.1,.string y.2]] W λe w'=>e= .returned (.int .i64 (cmpAv x y))/\ ∃q os',w'=grow (W.drewN q) os':=by
 have hcon:=λW'=>cmpS_c x.1 y.1 W'
 unfold cmpAv;generalize cmpS x.1 y.1=r at hcon|-
 go_enter Tryz.func143,Tryz.ntmps143
 go_wp2_with (go_at_call 82;refine(hcon _).mono ?_;rintro e w' ⟨rfl,rfl⟩)
 go_ret
 exact⟨rfl,0,_,by rw[alloc_eq_grow,alloc_eq_grow,grow_grow];rfl⟩
theorem cmpLaysAv(blk off size:Nat)(w:World):CmpLays Tryz.prog 143 #[] encAv 2 cmpAv blk off size w:=λ_ _ _ _ x y=>ZgQ x y _
theorem ZVp{α:Type}[Inhabited α](enc:α->List Value)(k:Nat){w:World}{g n:Nat}{os:Array Obj}{cur:Array Value}{e:TypeId}{fr:Nat×Nat}(d:Array α)(hb:w.heap[g]? =some (.cells cur e fr)):
  (sortWorldK enc k w g 0 n d os).heap[g]? =some (.cells (putCells id 0 (flatK enc k d) cur) e fr):=by
 have hg:g<w.heap.size:=(ξH hb).1;unfold sortWorldK putRowK;rw[heap_grow_old _ _ (by simpa using hg)];simp[putRow,mapBlock,Sort.ahead,ZOl,hb,onCells]
theorem grown_sortK{α:Type}[Inhabited α](enc:α->List Value)(k:Nat){w:World}{g n:Nat}{os:Array Obj}(d:Array α):w.grownBy (sortWorldK enc k w g 0 n d os) (some g):=by
 unfold sortWorldK putRowK;refine⟨rfl,rfl,rfl,J1,λk hk hne=> ?_⟩;rw[heap_grow_old _ _ (by simpa using hk)];have:g≠k:=λe=>hne (by rw[e])
 simp[putRow,mapBlock,Sort.ahead,ZOl,this]
theorem ZYK(cur F:Array Value)(h:F.size<=cur.size):(putCells id 0 F cur).toList.take F.size=F.toList:=by
 apply ZBG;intro j;by_cases hj:j<F.size
 .rw[List.getElem?_take_of_lt hj,ξL,ξL];simp[putCells,hj,show j<cur.size by omega]
 .rw[List.getElem?_take_eq_none J0,ZA2 (by simp;omega)]
theorem own_sortK{α:Type}[Inhabited α](enc:α->List Value)(k:Nat){w:World}{g n cap:Nat}{e:TypeId}{os:Array Obj}{cur:Array Value}{d:Array α}{m:Nat}(hm:d.size=m)(hb:w.heap[g]? =some (.cells cur e (0,0)))(h1:m<=cap)(h2:cap<=maxLen)(h3:cur.size=cap*k):
  (sortWorldK enc k w g 0 n d os).ownsRow 0 e k (.slice (some ⟨g,0,none⟩) m cap) m (flatK enc k d).toList:=by
 subst hm;have hle:d.size*k<=cap*k:=Kn _ h1;exact⟨J1,.inr ⟨g,cap,_,rfl,Jy _,ZVp enc k d hb,h1,h2,by simp[putCells,h3],by
  have:=ZYK cur (flatK enc k d) (by simp;omega);rwa [size_flatK]at this⟩⟩
end Go.Proofs
end
section
namespace Go.Proofs.YtiogclkbccdefaaGreatDoor
open Go.RowKit Go.Bo Go.Ab
def ZDD(p:Av):List Av->List Av
 | []=> [p]
 |q::o=>if Op.bytesLess q.1 p.1=true then q::ZDD p o else p::q::o
def ZAc(r:List Av):List Av:=r.foldl (λo p=>ZDD p o) []
theorem ZLL(p:Av): ∀o,(ZDD p o).Perm (p::o)
 | []=>ZJr _
 |q::o=>by
  unfold ZDD;split
  .exact((ZLL p o).cons q).trans (List.Perm.swap p q o)
  .exact ZJr _
theorem ZNr: ∀(r o:List Av),(r.foldl (λo p=>ZDD p o) o).Perm (r++o)
 | [],o=>ZJr _
 |p::r,o=>by
  rw[ZOX];exact(ZNr r _).trans (((ZLL p o).append_left r).trans List.perm_middle)
theorem ZFU(r:List Av):(ZAc r).Perm r:=by have:=ZNr r [];rwa [Ku]at this
theorem ZJB(r:List Av):(ZAc r).length=r.length:=(ZFU r).length_eq
theorem ZZq(r:List Av)(p:Av):ZAc (r++ [p])=ZDD p (ZAc r):=by unfold ZAc;rw[ZRw];rfl
theorem ZXj(a b c:Tx)(h1:Op.bytesLess a b=false)(h2:Op.bytesLess b c=false):Op.bytesLess a c=false:=by
 cases h:Op.bytesLess a c with
 |false=>rfl
 |true=>
  by_cases e1:a=b
  .subst e1;rw[h]at h2;cases h2
  .rcases bl_tot _ _ e1 with h3|h3
   .rw[h3]at h1;cases h1
   .have:=bl_trans _ _ _ h3 h;rw[this]at h2;cases h2
abbrev SrA(l:List Av):Prop:=l.Pairwise λa b=>Op.bytesLess b.1 a.1=false
theorem ZL6(p:Av): ∀o,SrA o->SrA (ZDD p o)
 | [],_=>List.pairwise_singleton _ _
 |q::o,h=>by
  obtain⟨h1,h2⟩:=ZWK.1 h;unfold ZDD;split
  .rename_i hl;refine ZWK.2 ⟨λx hx=> ?_,ZL6 p o h2⟩;rcases KB.1 ((ZLL p o).mem_iff.1 hx)with rfl|hx
   .exact ZUb _ _ hl
   .exact h1 x hx
  .rename_i hl;have hl:Op.bytesLess q.1 p.1=false:=by simpa using hl
   refine ZWK.2 ⟨λx hx=> ?_,h⟩;rcases KB.1 hx with rfl|hx
   .exact hl
   .exact ZXj _ _ _ (h1 x hx) hl
theorem ZKS: ∀(r o:List Av),SrA o->SrA (r.foldl (λo p=>ZDD p o) o)
 | [],o,h=>h
 |p::r,o,h=>by rw[ZOX];exact ZKS r _ (ZL6 p o h)
theorem ZTX(r:List Av):SrA (ZAc r):=ZKS r [] List.Pairwise.nil
theorem ZdR{r l:List Av}(hp:l.Perm r)(hs:SrA l)(hn:(r.map (·.1)).Nodup):l=ZAc r:=by
 refine List.Perm.eq_of_pairwise (le:=λa b=>Op.bytesLess b.1 a.1=false) (λa b ha hb h1 h2=> ?_) hs (ZTX r) (hp.trans (ZFU r).symm);have ha':=hp.mem_iff.1 ha;have hb':=(ZFU r).mem_iff.1 hb;have he:a.1=b.1:=ZM0 λhne=>by
  rcases bl_tot _ _ hne with h|h
  .rw[h]at h2;cases h2
  .rw[h]at h1;cases h1
 obtain⟨i,hi,rfl⟩:=ZWZ ha';obtain⟨j,hj,rfl⟩:=ZWZ hb';have key: ∀(i j:Nat) (hi:i<r.length) (hj:j<r.length),i<j->r[i].1≠r[j].1:=λi j hi hj hij=>by
  have:=ZJa.1 hn i j (by simpa using hi) (by simpa using hj) hij;simpa using this
 have:i=j:=by
  rcases Nat.lt_trichotomy i j with h|h|h
  .exact absurd he (key i j hi hj h)
  .exact h
  .exact absurd he.symm (key j i hj hi h)
 subst this;rfl
def bsA(p:Av):ByteArray×ByteArray:=(ZR p.1,ZR p.2)
theorem Zg1(x:ByteArray×ByteArray):bsA (x.1.toList,x.2.toList)=x:=by
 have key: ∀b:ByteArray,ZR b.toList=b:=λb=>by
  unfold ZR;rw[ByteArray.toList_eq]
 unfold bsA;rw[key,key]
theorem Zg5(r:List Av)(hn:(r.map (·.1)).Nodup)(d':Array (ByteArray×ByteArray))(hp:Sort.PermIn 0 r.length (r.map bsA).toArray d')(hs:Sort.SortedIn (Go.Proofs.ltOf Go.Proofs.cmpAv) 0 r.length d'):d'=((ZAc r).map bsA).toArray:=by
 obtain⟨hsz,-,hpm⟩:=hp;have hsz':d'.size=r.length:=by rw[hsz];simp
 have hex:(d'.extract 0 r.length).toList=d'.toList:=by rw[<-hsz'];simp
 have hex2:((r.map bsA).toArray.extract 0 r.length).toList=r.map bsA:=by simp[Yi]
 rw[hex,hex2]at hpm;have hl:d'.toList=(d'.toList.map λx=>(x.1.toList,x.2.toList)).map bsA:=by
  rw[Js]
  conv=>lhs;rw[<-ZO1 d'.toList]
  exact ZBe λx _=>(Zg1 x).symm
 have hperm:(d'.toList.map λx=>(x.1.toList,x.2.toList)).Perm r:=by
  have:=hpm.map λx:ByteArray×ByteArray=>(x.1.toList,x.2.toList)
  rw[Js]at this;have e:(r.map ((λx:ByteArray×ByteArray=>(x.1.toList,x.2.toList))∘bsA))=r:=by
   conv=>rhs;rw[<-ZO1 r]
   exact ZBe λp _=>by simp[bsA,KM]
  rwa [e]at this
 have hsr:SrA (d'.toList.map λx=>(x.1.toList,x.2.toList)):=by
  show List.Pairwise _ _;rw[List.pairwise_map,ZJa];intro i j hi hj hij;have:=hs i j (Jy _) hij (by rw[<-hsz'];simpa using hj);rw[Go.Proofs.ltAv]at this;simp at hi hj;simp only[getElem!_pos d' i hi,getElem!_pos d' j hj]at this;simpa using this
 apply ZDh.1;rw[hl,ZdR hperm hsr hn]
theorem ZTw(r:List Av)(i:Nat)(hi:i<r.length):(Go.Sort.flatK Go.Proofs.encAv 2 (r.map bsA).toArray).toList[i*2]? =some (Value.string (ZR r[i].1))/\(Go.Sort.flatK Go.Proofs.encAv 2 (r.map bsA).toArray).toList[i*2+1]? =some (Value.string (ZR r[i].2)):=by
 have e1:i*2/2=i:=by omega
 have e2:(i*2+1)/2=i:=by omega
 have e3:i*2 % 2=0:=by omega
 have e4:(i*2+1) % 2=1:=by omega
 have hg:(r.map bsA)[i]! =bsA r[i]:=by rw[getElem!_pos _ i (by simpa using hi)];simp
 constructor
 .simp[Go.Sort.flatK,show i*2<r.length*2 by omega,e1,e3,hg,Go.Proofs.encAv,bsA,hi]
 .simp[Go.Sort.flatK,show i*2+1<r.length*2 by omega,e2,e4,hg,Go.Proofs.encAv,bsA,hi]
set_option maxHeartbeats 1000000 in
theorem Zhp(e:Nat)(r:List Av)(hn:(r.map (·.1)).Nodup)(hne:r≠ [])(hl:r.length<=1000000)(lim:Nat)(hlim:lim<=64):ZN Tryz.prog 175 [.ref 0 r.length 0 r.length,.x (.int .i64 0),.x (.int .i64 r.length),.x (.int .i64 lim),.fn 143 []] [.rows false e 2 (rows Zo r)] (.tup []) [.rows false e 2 (rows Zo (ZAc r))]:=by
 intro c E vs R hvl;obtain⟨hsz,hv⟩:=hvl;obtain⟨v0,v1,v2,v3,v4,rfl⟩: ∃v0 v1 v2 v3 v4,vs= #[v0,v1,v2,v3,v4]:=by
  obtain⟨vl⟩:=vs
  match vl,hsz with
  | [a,b,c,d,e],_=>exact⟨a,b,c,d,e,rfl⟩
 have h0:=hv 0 _ v0 rfl rfl;have h1:=hv 1 _ v1 rfl rfl;have h2:=hv 2 _ v2 rfl rfl;have h3:=hv 3 _ v3 rfl rfl;have h4:=hv 4 _ v4 rfl rfl;clear hv hsz;obtain rfl:v1= .int .i64 0:=by cases h1 with|x h=>cases h;rfl
 obtain rfl:v2= .int .i64 r.length:=by cases h2 with|x h=>cases h;rfl
 obtain rfl:v3= .int .i64 lim:=by cases h3 with|x h=>cases h;rfl
 obtain rfl:v4= .func (.func 143) #[] #[]:=by
  cases h4 with
  |fn vs hl _=>rw[show vs= #[]from Zfu hl.symm]
 clear h1 h2 h3 h4;have hlen:(rows Zo r).length=r.length:=Zh _ _;cases h0 with
 |ref hr _=>
  have ho: [Ob.rows false e 2 (rows Zo r)][0]? =some (Ob.rows false e 2 (rows Zo r)):=rfl;obtain⟨k1,k2⟩:=hr.at ho rfl;obtain⟨k3,b,a,cap,a',cap',k4,rfl,k6,k7,k8,k9,k10,k11⟩:=k2 hlen;obtain⟨rfl,rfl⟩:=k8 rfl;obtain⟨p,hp,hok⟩:=R.at ho;rw[hp]at k4;have hpb:p=(b,.slice a' r.length cap'):=ZB9 k4;subst hpb;have hpos:0<r.length:=ZPF.2 hne;obtain⟨xs,⟨q1,q2⟩,q3,q4⟩:=hok;rcases q2 with⟨q2,q5⟩|⟨g,cp,cells,fr,q5,q6,q7,q8,q9,q10,q11⟩
  .rw[hlen]at q5;omega
  .simp only[Value.slice.injEq]at q5;obtain⟨rfl,_,rfl⟩:=q5;rw[hlen]at q10 q7 q1;have hfr:fr=(0,0):=by
    rcases q11 with q11|⟨q11,_⟩
    .exact q11
    .cases q11
   subst hfr;have hxs:xs=(Go.Sort.flatK Go.Proofs.encAv 2 (r.map bsA).toArray).toList:=by
    apply List.ext_getElem (by rw[q1];simp);intro t ht ht2;have htr:t/2<r.length:=by rw[q1]at ht;omega
    obtain⟨f1,f2⟩:=ZTw r (t/2) htr;have hrw:(rows Zo r)[t/2]? =some [X.str r[t/2].1,X.str r[t/2].2]:=by simp[rows,htr,Zo]
    apply ZB9;rw[<-YA ht2];rcases Nat.mod_two_eq_zero_or_one t with hm|hm
    .have et:t/2*2=t:=by omega
     rw[et]at f1;rw[f1];have:=q4 (t/2) _ 0 (.str r[t/2].1) xs[t] hrw rfl (by rw[JK,et];exact YA ht);generalize xs[t]=u at this|-;cases this;rfl
    .have et:t/2*2+1=t:=by omega
     rw[et]at f2;rw[f2];have:=q4 (t/2) _ 1 (.str r[t/2].2) xs[t] hrw rfl (by rw[et];exact YA ht);generalize xs[t]=u at this|-;cases this;rfl
   have hglt:=(ξH q6).1;have hds:(r.map bsA).toArray.size=r.length:=by simp
   have hH:Go.Sort.HoldsK Go.Proofs.encAv 2 E.w g 0 (r.map bsA).toArray:=by
    intro j hj;rw[Go.Sort.size_flatK,hds]at hj;have hjx:cells.toList[j]? =xs[j]? :=by rw[<-q10,List.getElem?_take_of_lt hj]
    refine⟨?_,by simp[World.frozen?,q6]⟩;simp only[World.cell?,q6,Option.isSome_none,JM,if_false,JW];rw[<-ξL,hjx,hxs,ξL];have hjs:j<(Go.Sort.flatK Go.Proofs.encAv 2 (r.map bsA).toArray).size:=by rw[Go.Sort.size_flatK,hds];exact hj
    rw[ξO hjs,getElem!_pos _ j hjs];rfl
   have eg: ∀args w,(callFunc 143 args).run Tryz.prog w= .ok (.enter 143 args) w:=Go.Proofs.enters_of Tryz.func143 J3 rfl;have hk2: ∀x,(Go.Proofs.encAv x).length=2:=λ_=>rfl
   have h11: ∀x,∀v∈Go.Proofs.encAv x,v.oneCell'=true:=λx v hv=>by simp[Go.Proofs.encAv]at hv;rcases hv with rfl|rfl<;>rfl
   have:=Go.Proofs.AnyQ.pdqsortCmpFunc_all Tryz.pdqAva 2 (by exact Tryz.isAgg188) (by exact Tryz.sizeOf188) Go.Proofs.encAv Go.Proofs.cmpAv 143 #[] Go.Proofs.swoAv g 0 cap' (r.map bsA).toArray E.w eg (Go.Proofs.cmpLaysAv g 0 _ E.w) ⟨hk2,h11,hH,hglt⟩ (r.length+1) 0 r.length lim (r.map bsA).toArray E.w J0 rfl (Go.Proofs.SWK.start hH) (Jy _) (by rw[hds];exact Zm _) (by rw[hds];omega) J0 (Or.inl rfl);rw[hds]at this;refine this.mono ?_;rintro _ w' ⟨rfl,nn,oss,rfl⟩;have hps:=Go.Sort.pdq_sorts (Go.Proofs.ltOf Go.Proofs.cmpAv) Go.Proofs.swoAv (r.map bsA).toArray 0 r.length lim true true (Jy _) (by rw[hds];exact Zm _) (Or.inl rfl);have hd':=Zg5 r hn _ hps.1 hps.2;rw[hd'];have hown:=Go.Proofs.own_sortK (n:=nn) (os:=oss) Go.Proofs.encAv 2 (d:=((ZAc r).map bsA).toArray) (m:=r.length) (by simp[ZJB]) q6 q7 q8 q9;have hg:=Go.Proofs.grown_sortK (n:=nn) (os:=oss) (w:=E.w) (g:=g) Go.Proofs.encAv 2 ((ZAc r).map bsA).toArray;have hls:(rows Zo (ZAc r)).length=r.length:=by rw[Zh,ZJB]
   obtain⟨R',ev⟩:=R.set ho hp _ (.rows false e 2 (rows Zo (ZAc r))) (b,.slice (some ⟨g,0,none⟩) r.length cap') ⟨hg.os,hg.tape,hg.output,hg.size,λk hk hm=>hg.block k hk (λe=>hm (by cases e;rfl))⟩ (λb' hb'=> .inl hb') (λsz rs1 h=>by
     simp only[Ob.sl?,Ze,ZZ]at h;obtain⟨rfl,rfl⟩:=h;exact⟨(rows Zo (ZAc r)).length,rfl,.inl ⟨by rw[hls,hlen],rfl⟩⟩) (λk h=>by cases h) (λev=>by
     refine⟨_,by rw[hls];exact Ko.of_owns hown false,λz hz=> ?_,λi z j x v h1 h2 h3=> ?_⟩
     .obtain⟨q,_,rfl⟩:=YO.1 hz;rfl
     .unfold rows at h1;rw[YG]at h1;obtain⟨q,hq,rfl⟩:=Zc h1;have hi:=(ZV hq).1;obtain⟨f1,f2⟩:=ZTw (ZAc r) i hi;have hqe:(ZAc r)[i]=q:=(ZV hq).2;rw[hqe]at f1 f2
      match j with
      |0=>
       simp only[Zo,ZCs,Ze]at h2;subst h2;rw[JK,f1]at h3;cases h3;exact .str _
      |1=>
       simp only[Zo,ZCs,ZCk,Ze]at h2;subst h2;rw[f2]at h3;cases h3;exact .str _
      |j+2=>simp[Zo]at h2)
   exact⟨_,_,rfl,rfl,R',ev,.tup #[] rfl (λj d v h=>by simp at h)⟩
theorem ZZI(n:Nat)(h:n<=1000000):ZC Tryz.prog 176 [.x (.int .u64 n)] (.x (.int .i64 (Lib.bitLen n))):=by
 intro w st vs hst hvl;obtain⟨hsz,hv⟩:=hvl;obtain⟨v0,rfl⟩: ∃v0,vs= #[v0]:=by
  obtain⟨vl⟩:=vs
  match vl,hsz with
  | [a],_=>exact⟨a,rfl⟩
 have h0:=hv 0 _ v0 rfl rfl;obtain rfl:v0= .int .u64 n:=by cases h0 with|x h=>cases h;rfl
 have:=Tryz.bits_Len (n:Int) w J0 J0;rw[ZH1]at this;refine this.mono ?_;rintro e w' ⟨rfl,rfl⟩;exact⟨_,st,rfl,Kept.refl _ _,λ_ _ h=>h,λ_ _ h=> .inl h,.x (.int _ _)⟩
def ZGZ:J8->J5
 | [.x (.int .u64 n)]=>some (decide (0<=n/\n<=1000000),.x (.int .i64 (Lib.bitLen n.toNat)))
 |_=>none
theorem ZTS: ∀args r,ZGZ args=some (true,r)->ZC Tryz.prog 176 args r:=by
 intro args r h;unfold ZGZ at h;split at h
 .rename_i n;simp only[Ze,ZZ,ZS,Zd,true_and]at h;obtain⟨h1,rfl⟩:=h;exact(by obtain⟨m,rfl⟩: ∃m:Nat,n=m:=⟨n.toNat,J0⟩;rw[ZH1];exact ZZI m J0)
 .cases h
def Zey:Tabs:=ZT (ZO) 176 ZGZ
theorem ZVR:SsOk Tryz.prog Zey:=ZH (ZF) (ZW 176) ZTS
theorem ZVx:Enters Tryz.prog 175:=ZW 175
theorem ZeN(e:Nat)(r:List Av)(hn:(r.map (·.1)).Nodup)(hne:r≠ [])(hl:r.length<=1000000):ZN Tryz.prog 142 [.ref 0 r.length 0 r.length,.fn 143 []] [.rows false e 2 (rows Zo r)] (.tup []) [.rows false e 2 (rows Zo (ZAc r))]:=by
 have hbl:Lib.bitLen r.length<=62:=Lib.bitLen_le r.length 62 J0 J0;have hw:IntKind.u64.wrap (r.length:Int)=r.length:=by simp[IntKind.wrap,IntKind.bits,IntKind.signed];omega
 have hc:=Zhp e r hn hne hl (Lib.bitLen r.length) J0;have hdd:decide (0<=(r.length:Int)/\(r.length:Int)<=1000000)=true:=ZL J0;refine ZI.mcalls (fC 142 true ?_);intro C0 E0;have uu:=ξ8 @ZGZ.eq_1 @ZGZ.eq_2 hw hdd @ZHZ @ZHc @ZHX @ZHg;have tT:=(ZCV ZVR ZVx hc);refine nz ?_;refine rg tT [0,1,4] ?_;refine WI.regB tT [] ?_
 iterate 3 refine oS ?_
 refine oG ?_;refine oC ?_;refine oS ?_;refine oC ?_;refine osN ?_
 first|refine lfN ?_|refine Zig ?_|refine ZiN ?_
 exact⟨rfl,rfl⟩
theorem ZSC:Enters Tryz.prog 142:=ZW 142
def ZCU(p:Av):Av:=(ZJ p.1,fld p.2)
def Jr(r:List Av):List Av:=ZAc (r.map ZCU)
def KE(r:List Av):Bool:=r.all λp=> !(fld p.2== [])
def JG(s:Tx):Tx×Int:=if(YQ s).2≠0 then([],(YQ s).2)else if(YQ s).1.all KE=true then QT ((YQ s).1.map Jr)else([],5)
theorem ZP9(r:List Av): ∀n,n<=r.length->okP r n=true->(QV (r.take n)).Nodup
 |0,_,_=>by simp[QV]
 |n+1,hn,h=>by
  rw[okP,ZS]at h;have ih:=ZP9 r n J0 h.1;have h2:=h.2;unfold ZAB at h2;simp only[ZS,ZHz,decide_eq_false_iff_not]at h2;have hg:r.getD n ([],[])=r[n]:=by simp[show n<r.length by omega]
  rw[hg]at h2;unfold QV at ih h2|-;rw[Jk J0,Jt,ZGy];refine⟨ih,J1,λa ha b hb=> ?_⟩;simp only[YL,ZAD,ZBK]at hb;subst hb;rintro rfl;exact h2.2.2.2 ha
theorem ZXx{r:List Av}(h:Yk r=true):((r.map ZCU).map (·.1)).Nodup:=by
 unfold Yk at h;rw[ZS]at h;have:=ZP9 r r.length (Zm _) h.1;rw[Jm]at this;rw[Js];exact this
theorem ZRB(r:List Av):(Jr r).length=r.length:=by unfold Jr;rw[ZJB,YX]
def ZBD(r:List Av)(k:Nat):List Av:=(r.take k).map ZCU++r.drop k
theorem ZRf(r:List Av)(k:Nat):(ZBD r k).length=r.length:=by unfold ZBD;simp;omega
theorem Zdg(r:List Av)(k:Nat)(h:k<r.length):(rows Zo (ZBD r k))[k]? =some [X.str (r.getD k ([],[])).1,X.str (r.getD k ([],[])).2]:=by
 have e:(ZBD r k)[k]? =some (r.getD k ([],[])):=by
  unfold ZBD;rw[QP (by simp;omega)];simp[h,ZRH (Nat.le_of_lt h)]
 unfold rows;rw[YG,e];rfl
theorem ZZ2(r:List Av)(k:Nat)(h:k<r.length):(rows Zo (ZBD r (k+1)))[k]? =some [X.str (ZJ (r.getD k ([],[])).1),X.str (fld (r.getD k ([],[])).2)]:=by
 have e:(ZBD r (k+1))[k]? =some (ZCU (r.getD k ([],[]))):=by
  unfold ZBD;rw[Yc (by simp;omega),YG,Jw,if_pos J0];simp[h]
 unfold rows;rw[YG,e];rfl
theorem ZbB(r:List Av)(k:Nat)(h:k<r.length):(rows Zo (ZBD r k)).set k [X.str (ZJ (r.getD k ([],[])).1),X.str (fld (r.getD k ([],[])).2)]=rows Zo (ZBD r (k+1)):=by
 have e:(ZBD r k).set k (ZCU (r.getD k ([],[])))=ZBD r (k+1):=by
  unfold ZBD;rw[ZEH _ _ (by simp;omega),Jk h,Jt];have h1:k-((r.take k).map ZCU).length=0:=by simp;omega
  rw[h1,ZFj h,ZDC,Yh];simp[h]
 rw[<-e];unfold rows;rw[ZMz];rfl
theorem Zct(r:List Av):ZBD r r.length=r.map ZCU:=by unfold ZBD;simp
theorem ZYA(r:List Av):ZBD r 0=r:=by unfold ZBD;simp
def ZDA(d:Dn)(j:Nat):Dn:=(d.take j).map Jr++d.drop j
theorem Zcr(d:Dn)(j:Nat):(ZDA d j).length=d.length:=by unfold ZDA;simp;omega
theorem Zdb(d:Dn)(j:Nat)(h:j<d.length):(ZDA d j).getD j []=d.getD j []:=by
 unfold ZDA;rw[ZFm,QP (by simp;omega)];simp[h,ZRH (Nat.le_of_lt h)]
theorem Zbu(d:Dn)(j:Nat)(h:j<d.length):(ZDA d j).set j (Jr (d.getD j []))=ZDA d (j+1):=by
 unfold ZDA;rw[ZEH _ _ (by simp;omega),Jk h,Jt];have h1:j-((d.take j).map Jr).length=0:=by simp;omega
 rw[h1,ZFj h,ZDC,Yh];simp[h]
theorem ZbD(d:Dn):ZDA d d.length=d.map Jr:=by unfold ZDA;simp
theorem ZY3(d:Dn):ZDA d 0=d:=by unfold ZDA;simp
def ZIO:J8->J5
 | [.x (.str s)]=>some (decide (s.length<=1000000),.x (.str (fld s)))
 |_=>none
theorem ZYj: ∀args r,ZIO args=some (true,r)->ZC Tryz.prog 141 args r:=by
 intro args r h;unfold ZIO at h;split at h
 .rename_i s;simp only[Ze,ZZ,ZS,Zd,true_and]at h;obtain⟨h1,rfl⟩:=h;exact(ZhP s h1)
 .cases h
theorem ZTT:Enters Tryz.prog 121:=ZW 121
def ZGp:Tabs:=Jz (ZT (ZT (ZT (ZO) 63 QO) 141 ZIO) 144 Qm) 144 (ZAE Qm)
theorem Kb:SsOk Tryz.prog ZGp:=JE (ZH (ZH (ZH (ZF) (ZW 63) ZJv) (ZW 141) ZYj) (ZW 144) ZGk) (ZW 144) (ZDv ZGk)
theorem ZcI:(∀a,ZGp.q 63 a=QO a)/\(∀a,ZGp.q 141 a=ZIO a)/\(∀a,ZGp.q 144 a=Qm a)/\(∀a o,ZGp.t 144 a o=Yx (ZAE Qm) a o)/\(∀f a o,ZGp.r f a o=none)/\(∀f a o,ZGp.k f a o=none):=⟨λ_=>rfl,λ_=>rfl,λ_=>rfl,λ_ _=>rfl,λ_ _ _=>rfl,λ_ _ _=>rfl⟩
def FZ(d:Dn):J7:=ZFh 2 (d.map (rows Zo))
theorem Zgz(d:Dn):(FZ d).length=d.length:=by unfold FZ;rw[ZG4,YX]
theorem ZfJ(d:Dn):frzL (List.range' 1 d.length) (obD d)= .drw 154 1 (RF d)::FZ d:=by
 have h:=ZUt (.drw 154 1 (RF d)) 188 2 (d.map (rows Zo)) [];rw[YX]at h;exact h
theorem Zdh(d:Dn):ZCf [0] (.drw 154 1 (RF d)::FZ d)= [.drw 154 1 (KQ (rows JU d))]:=by
 have h3:=Zej 154 2 (d.map (rows Zo));have h4:((d.map (rows Zo)).map λrs=> [X.sl rs])=rows JU d:=by rw[Js];rfl
 rw[h4]at h3;exact h3
set_option maxHeartbeats 4000000 in
theorem ZeW(s:Tx)(d:Dn)(hq:YQ s=(d,0))(hne:s≠ []):ZC Tryz.prog 96 [.x (.str s)] (.tup [.x (.str (JG s).1),.x (.int .i64 (JG s).2)]):=by
 obtain⟨hs4,-,hd0,-,hck⟩:=ZJK s d hq hne;have hsm:smD d:=by
  have:=ZGY s J0;unfold ZAq ZCK at this;rw[Js]at this;rw[hd0];exact this
 obtain⟨hd32,hmay⟩:=ZD3 hck;have hn:JG s=if d.all KE=true then QT (d.map Jr)else([],5):=by
  unfold JG;rw[hq];simp
 have hread:=Zed s d hq hne;clear hq hne hs4 hd0 hck;rcases hu:JG s with⟨u,e⟩
 rw[hn]at hu;clear hn;refine ZI.pure (fC 96 true ?_) rfl;intro C0 E0;have uu:=KT @QO.eq_1 @QO.eq_2 @ZIO.eq_1 @ZIO.eq_2 @Qm.eq_1 @Qm.eq_2 @ZHZ @ZHc (ξ4 @ZHX @ZHg @ZcI @ZAE.eq_1);refine WI.seq ?_;refine WI.regB Kb [0] ?_
 iterate 2 refine oS ?_
 refine oN ?_;refine ZA ?_;refine WI.seq ?_;refine WI.regB (ZCV ZF ZTT hread) [4,5] ?_;refine oS ?_;refine oC ?_;refine oS ?_
 iterate 2 refine oG ?_
 iterate 2 refine oS ?_
 refine oN ?_;refine ZA ?_;refine WI.seq ?_;refine WI.seq ?_;refine WI.regB Kb [4,5,16] ?_;refine oS ?_;refine oG ?_;refine oN ?_;refine ZA ?_;refine WI.cond (b:=_) rfl rfl (λh0=> ?_) (λh0=> ?_)
 .exfalso;simp at h0
 .try simp only[zB]at h0
  refine WI.skip ?_;refine ZA ?_;refine WI.seq ?_;refine WI.seq ?_;have uu:=Ya uu (ZM9 d);refine WI.regB Kb [4,18,19,20] ?_;refine oS ?_;refine oG ?_;refine oS ?_;refine oN ?_;refine ZA ?_;refine WI.block ?_;refine WI.loop (λφ os=> ∃(j:Nat) (M:Dn),φ= [(4,.ref 0 d.length 0 d.length),(18,.ref 0 d.length 0 d.length),(19,.x (.int .i64 d.length)),(20,.x (.int .i64 j))]/\os=obD M/\j<=d.length/\M=ZDA d j/\(d.take j).all KE=true) (ZK d.length 20) ?_ (λφ os hI=> ?_)
  .exact⟨0,d,rfl,rfl,J0,(ZY3 d).symm,rfl⟩
  .obtain⟨j,M,rfl,rfl,hj,hM,hall⟩:=hI;have hMl:M.length=d.length:=by rw[hM,Zcr]
   have hRl:=ZM9 M;have hFl:=ZKu M;rw[hMl]at hRl hFl;refine WI.seq ?_;refine WI.regB Kb [4,18,19,20,21] ?_;refine oG ?_;refine oN ?_;refine ZA ?_;refine WI.seq ?_;refine WI.cond (b:=_) rfl rfl (λh1=> ?_) (λh1=> ?_)
   .try simp only[zB]at h1
    refine WI.skip ?_;refine ZA ?_;refine WI.seq ?_;refine WI.block ?_;refine WI.seq ?_;have hj4:j<d.length:=by omega
    have hMj:M.getD j []=d.getD j []:=by rw[hM];exact Zdb d j hj4
    have hrf:=ZXD M j J0;have hfm:=ZLr M j J0;rw[hMj]at hrf hfm;have hdj:d[j]=d.getD j []:=by simp[hj4]
    have hmr:Yk (d.getD j [])=true:=by rw[<-hdj];exact hmay _ (YZ hj4)
    have hM2:ZDA d (j+1)=M.set j (Jr (d.getD j [])):=by rw[hM];exact(Zbu d j hj4).symm
    have hM0:M=M.set j (ZBD (d.getD j []) 0):=by rw[ZYA,<-hMj];exact(ZPl M j).symm
    have hall3:(d.take (j+1)).all KE=((d.take j).all KE&&KE (d.getD j [])):=by rw[JV _ d j hj4,hdj]
    have hnf:KE (d.getD j [])=false->d.all KE=false:=λh=>YB KE d j hj4 (by rw[hdj];exact h)
    generalize hr:d.getD j []=r at hMj hrf hfm hmr hM2 hM0 hall3 hnf;obtain⟨hr8,hr1,hpb⟩:=ZBW hmr;have uu:=ξ4 uu hrf hfm hRl;refine WI.regB Kb [4,7,18,19,20] ?_
    iterate 2 refine oG ?_
    refine oS ?_;refine oN ?_;refine ZA ?_;refine WI.seq ?_;refine WI.seq ?_;refine WI.regB Kb [4,7,18,19,20,24,25,26] ?_;refine oS ?_;refine oG ?_;refine oS ?_;refine oN ?_;refine ZA ?_;refine WI.block ?_;refine WI.orderA [4,7,18,19,20,24,25,26] ?_;have hFs: ∀x:List Av,(FM (M.set j x)).length=d.length:=λx=>by rw[ZKu,ZJA,hMl]
    have hFb: ∀(x:List Av) (y:Ob),(FM (M.set j x)++ [y])[d.length]? =some y:=λx y=>by rw[QP (by rw[hFs];exact Zm _),hFs,ZJR];rfl
    have hFc: ∀(x:List Av) (y z:Ob),(FM (M.set j x)++ [y]).set d.length z=FM (M.set j x)++ [z]:=λx y z=>by rw[ZEH _ _ (by rw[hFs];exact Zm _),hFs,ZJR];rfl
    have hFg: ∀(x:List Av) (Y:J7),(FM (M.set j x)++Y)[j]? =some (.rows false 188 2 (rows Zo x)):=λx Y=>by rw[ZX0 _ _ j (by rw[ZJA];omega),show(M.set j x).getD j []=x by simp[hMl,hj4]]
    have hFg': ∀(x:List Av),(FM (M.set j x))[j]? =some (.rows false 188 2 (rows Zo x)):=λx=>by have:=hFg x [];rwa [Ku]at this
    have hFt: ∀(x z:List Av) (Y:J7),(FM (M.set j x)++Y).set j (.rows false 188 2 (rows Zo z))=FM (M.set j z)++Y:=λx z Y=>by rw[ZWf _ _ j (by rw[ZJA];omega),List.set_set]
    have hIn: ∀x:List Av,x.length=r.length->(Ob.drw 154 1 (RF M)::FM (M.set j x)).all (Ob.inP (λi=>decide (i<(Ob.drw 154 1 (RF M)::FM (M.set j x)).length)))=true:=λx hx=>by rw[<-ZZS M j x (by rw[hMj];exact hx)];exact ZUs _
    have uu:=ξ7 uu hFs hFb hFc hFg hFg' hFt;refine WI.loop (λφ os=> ∃(k:Nat),φ= [(4,.ref 0 d.length 0 d.length),(7,.ref (j+1) r.length 0 r.length),(18,.ref 0 d.length 0 d.length),(19,.x (.int .i64 d.length)),(20,.x (.int .i64 j)),(24,.ref (j+1) r.length 0 r.length),(25,.x (.int .i64 r.length)),(26,.x (.int .i64 k))]/\os= .drw 154 1 (RF M)::FM (M.set j (ZBD r k))/\k<=r.length/\(r.take k).all (λp=> !(fld p.2== []))=true) (ZK r.length 26) ?_ (λφ os hI=> ?_)
    .exact⟨0,rfl,by rw[<-hM0],J0,rfl⟩
    .obtain⟨k,rfl,rfl,hk,hkall⟩:=hI;refine WI.seq ?_;refine WI.regB Kb [4,7,18,19,20,24,25,26,27] ?_;refine oG ?_;refine oN ?_;refine ZA ?_;refine WI.seq ?_;refine WI.cond (b:=_) rfl rfl (λh2=> ?_) (λh2=> ?_)
     .try simp only[zB]at h2
      refine WI.skip ?_;refine ZA ?_;refine WI.seq ?_;refine WI.block ?_;refine WI.seq ?_;have hk4:k<r.length:=by omega
      have hka:=Zdg r k hk4;have hka2:=ZZ2 r k hk4;have hks:=ZbB r k hk4;have hml:=ZRf r k;have hml2:=ZRf r (k+1);have hpk:(r.getD k ([],[])).1.length<=64/\(r.getD k ([],[])).2.length<=256:=by rw[show r.getD k ([],[])=r[k] by simp[hk4]];exact hpb _ (YZ hk4)
      have hka3:(r.take (k+1)).all (λp=> !(fld p.2== []))=((r.take k).all (λp=> !(fld p.2== []))&& !(fld (r.getD k ([],[])).2== [])):=by rw[JV _ r k hk4,show r.getD k ([],[])=r[k] by simp[hk4]]
      have hnk:fld (r.getD k ([],[])).2= []->KE r=false:=λh=>YB _ r k hk4 (by rw[show r[k]=r.getD k ([],[]) by simp[hk4],h];rfl)
      generalize r.getD k ([],[])=p at hka hka2 hks hpk hka3 hnk;have hs1:decide (p.1.length<=1000000)=true:=ZL J0;have hs2:decide (p.2.length<=1000000)=true:=ZL J0;have uu:=ξ8 uu hka hml hs1 hs2 hka2 hml2 hks;refine WI.regB Kb [4,7,8,9,18,19,20,24,25,26] ?_;refine oS ?_
      iterate 3 refine oG ?_
      refine oS ?_;refine oG ?_;refine oN ?_;refine ZA ?_;refine WI.seq ?_;refine WI.post ?_;refine WI.dregB Kb [4,7,8,18,19,20,24,25,26] ?_
      iterate 3 refine Zs ?_
      refine Yp ?_;refine dQC ?_;refine Zs ?_;refine Yp ?_;refine dAC ?_;refine Jq ?_
      iterate 2 refine dAG ?_
      refine dP ?_;refine ZN7 (.drw 154 1 (RF M)::FM (M.set j (ZBD r (k+1)))) _ rfl (Jy _) (hIn _ hml2) (by simp only[Qz,ZEz,D.inP,JD,hFs];simp;omega) ?_;refine KR ?_;refine ZA ?_;refine WI.seq ?_;refine WI.regB Kb [4,7,18,19,20,24,25,26,46] ?_
      iterate 2 refine oS ?_
      refine oG ?_;refine oS ?_
      iterate 2 refine oG ?_
      refine oN ?_;refine ZA ?_;refine WI.cond (b:=_) rfl rfl (λh3=> ?_) (λh3=> ?_)
      .try simp only[zB]at h3
       have hfe:fld p.2= []:=by simpa using h3
       rw[if_neg (by rw[hnf (hnk hfe)];decide)]at hu;cases hu;refine WI.seq ?_;refine WI.regB Kb [2,3] ?_
       iterate 2 refine oS ?_
       refine oN ?_;refine ZA ?_;refine WI.ret ?_;refine ZBc ?_;refine JP ?_;refine JP ?_;refine ZBc ?_;refine JP ?_;refine ZBc ?_;refine JP ?_;refine JP ?_;refine ZBc ?_;refine JP ?_
       first|refine lfR ?_|refine ZB5 ?_|refine ZBd ?_|refine ZB7 ?_
       rfl
      .try simp only[zB]at h3
       have hkall2:(r.take (k+1)).all (λp=> !(fld p.2== []))=true:=by rw[hka3,hkall];simpa using h3
       refine WI.skip ?_;refine Qs ?_;refine ZA ?_;refine WI.orderA [4,7,18,19,20,24,25,26] ?_;refine WI.regB Kb [4,7,18,19,20,24,25,26] ?_;refine oG ?_;refine oS ?_;refine oN ?_;refine ZA ?_;exact⟨⟨k+1,rfl,rfl,J0,hkall2⟩,by simp[ZK,Ab.get,D.val,ZD];omega⟩
     .try simp only[zB]at h2
      refine WI.exit ?_;refine QL ?_;refine QL ?_;refine ZC3 ?_;refine ZA ?_;obtain rfl:k=r.length:=by omega
      rw[Jm]at hkall;rw[Zct];have hrn:(r.map ZCU).length=r.length:=YX ..;have hsc:=ZeN 188 (r.map ZCU) (ZXx hmr) (by intro hh;rw[hh]at hrn;simp at hrn;omega) J0;rw[hrn]at hsc;have hsr:=ZN.row (args:= [.ref (j+1) r.length 0 r.length,.fn 143 []]) (OS:= .drw 154 1 (RF M)::FM (M.set j (r.map ZCU))) (j+1) (by rw[show Zu (Ye [j+1]) [D.ref (j+1) r.length 0 r.length,.fn 143 []]= [D.ref 0 r.length 0 r.length,.fn 143 []] by simp only[Zu,D.ren,Ye,if_true]];exact hsc) (by rw[ZCk];exact hFg' _) rfl (by simp[Yo,D.inP,Zn]) (λf=>rfl);have hft2:=hFt (r.map ZCU) (ZAc (r.map ZCU)) [];rw[Ku,Ku]at hft2;rw[ZBX,hft2]at hsr;have hM3:RF M=RF (ZDA d (j+1)):=by rw[hM2];exact(ZZS M j _ (by rw[ZRB,hMj])).symm
      have hM4:FM (M.set j (ZAc (r.map ZCU)))=FM (ZDA d (j+1)):=by rw[hM2];rfl
      rw[hM4]at hsr;rw[hM3]at hsr|-;have hall2:(d.take (j+1)).all KE=true:=by rw[hall3,hall];exact hkall
      have uu:=Ya uu hrn;refine WI.regB (ZCV ZF ZSC hsr) [4,18,19,20] ?_;refine oS ?_;refine oC ?_;refine oN ?_;refine Qs ?_;refine ZA ?_;refine WI.orderA [4,18,19,20] ?_;refine WI.regB Kb [4,18,19,20] ?_;refine oG ?_;refine oS ?_;refine oN ?_;refine ZA ?_;exact⟨⟨j+1,ZDA d (j+1),rfl,rfl,J0,rfl,hall2⟩,by simp[ZK,Ab.get,D.val,ZD];omega⟩
   .try simp only[zB]at h1
    refine WI.exit ?_;refine QL ?_;refine QL ?_;refine ZC3 ?_;refine ZA ?_;refine WI.seq ?_;obtain rfl:j=d.length:=by omega
    rw[Jm]at hall;rw[if_pos hall]at hu;rw[ZbD]at hM;subst hM;have hdl:(d.map Jr).length=d.length:=YX ..;rw[<-hdl];refine WI.orderA [4] ?_;refine WI.freeze (List.range' 1 (d.map Jr).length) ?_;rw[ZfJ];refine WI.pickA [0] (φ':= [(4,.ref 0 (d.map Jr).length 0 (d.map Jr).length)]) ?_ (hok:=by rw[JD,Zgz];simp[ZOu,QD,Zn]) (hp:=rfl) (ho:=Zdh (d.map Jr));refine WI.toXA 0 ?_;have hsn:smD (d.map Jr):=by
     intro r hr p hp;obtain⟨q,hq,rfl⟩:=YO.1 hr;obtain⟨x,hx,rfl⟩:=YO.1 ((ZFU _).mem_iff.1 hp);have:=((ZBW (hmay q hq)).2.2 x hx).1;show(ZJ x.1).length<=900000;unfold ZJ;rw[YX];omega
    have hsnd:decide (smD (d.map Jr))=true:=ZL hsn;have htk:(d.map Jr).take (d.map Jr).length=d.map Jr:=Jm;have uu:=ξ4 uu hsnd (ZLK (d.map Jr)) htk;refine WI.regB Kb [2,3] ?_;refine oS ?_;refine oC ?_
    iterate 2 refine oG ?_
    iterate 2 refine oS ?_
    refine oN ?_;refine ZA ?_;refine WI.ret ?_
    first|refine lfR ?_|refine ZB5 ?_|refine ZBd ?_|refine ZB7 ?_
    rw[hu]
theorem ZPz:YQ []=([],0):=by unfold YQ;simp
def ZKf:Tabs:=ZT (ZT (ZO) 121 Qi) 144 Qm
theorem ZPh:SsOk Tryz.prog ZKf:=ZH (ZH (ZF) (ZW 121) ZHo) (ZW 144) ZGk
theorem ZQ3:(∀a,ZKf.q 121 a=Qi a)/\(∀a,ZKf.q 144 a=Qm a)/\(∀f a o,ZKf.r f a o=none)/\(∀f a o,ZKf.k f a o=none):=⟨λ_=>rfl,λ_=>rfl,λ_ _ _=>rfl,λ_ _ _=>rfl⟩
theorem Zeg(s:Tx)(h:(YQ s).2≠0):ZC Tryz.prog 96 [.x (.str s)] (.tup [.x (.str (JG s).1),.x (.int .i64 (JG s).2)]):=by
 rcases hu:JG s with⟨u,e⟩
 unfold JG at hu;rw[if_pos h]at hu;cases hu;refine ZI.pure (fC 96 true ?_) rfl;intro C0 E0;have uu:=ξ5 @Qi.eq_1 @Qi.eq_2 @ZQ3 @Qm.eq_1 @Qm.eq_2;have tT:=ZPh;refine nz ?_;refine rg tT [0] ?_;refine rg tT [4,5] ?_;refine rg tT [4,5,16] ?_;refine cd (λh0=> ?_) (λh0=> ?_)
 .refine rg tT [2,3] ?_;refine lf ?_
  first|rfl|exact⟨rfl,rfl⟩|trivial
 .exact absurd (by simpa using h0) h
theorem ZfI:ZC Tryz.prog 96 [.x (.str [])] (.tup [.x (.str (JG []).1),.x (.int .i64 (JG []).2)]):=by
 have h1:YQ []=([],0):=ZPz;have h2:JG []=QT []:=by unfold JG;rw[h1];simp
 have h3:decide (smD [])=true:=by decide
 have h4:Zb JU (rows JU [])=some []:=ZLK [];rw[h2];refine ZI.pure (fC 96 true ?_) rfl;intro C0 E0;have uu:=ξ8 @Qi.eq_1 @Qi.eq_2 @Qm.eq_1 @Qm.eq_2 h1 h3 h4 @ZQ3;have tT:=ZPh;refine nz ?_;refine rg tT [0] ?_;refine rg tT [4,5] ?_;refine rg tT [4,5,16] ?_;refine ce (λh0=> ?_) (λh0=> ?_)
 .simp at h0
 .refine rg tT [4,18,19,20] ?_;refine WI.loop (λφ os=>φ= [(4,.x (.sl (rows JU []))),(18,.x (.sl (rows JU []))),(19,.x (.int .i64 0)),(20,.x (.int .i64 0))]/\os= []) (ZK 0 20) ?_ (λφ os hI=> ?_)
  .exact⟨rfl,rfl⟩
  .obtain⟨rfl,rfl⟩:=hI;refine nz ?_;refine rg tT [4,18,19,20,21] ?_;refine ce (λh1=> ?_) (λh1=> ?_)
   .simp at h1
   .refine rg tT [2,3] ?_;refine lf ?_
    first|rfl|exact⟨rfl,rfl⟩|trivial
theorem ZfY(s:Tx):ZC Tryz.prog 96 [.x (.str s)] (.tup [.x (.str (JG s).1),.x (.int .i64 (JG s).2)]):=by
 by_cases h:(YQ s).2=0
 .by_cases hs:s= []
  .subst hs;exact ZfI
  .exact ZeW s (YQ s).1 (by rw[<-h]) hs
 .exact Zeg s h
def ZCg(p:Av):List Av->Nat
 | []=>0
 |q::o=>if Op.bytesLess q.1 p.1=true then ZCg p o+1 else 0
theorem ZUf(p:Av): ∀o,ZCg p o<=o.length
 | []=>by simp[ZCg]
 |q::o=>by have:=ZUf p o;unfold ZCg;split<;>simp;omega
theorem ZTs(p:Av): ∀o,ZDD p o=o.take (ZCg p o)++p::o.drop (ZCg p o)
 | []=>rfl
 |q::o=>by
  unfold ZDD ZCg;split
  .rw[ZTs p o];rfl
  .rfl
theorem ZT2(p:Av): ∀(o:List Av) (k:Nat),k<=ZCg p o-> ∀h:k<o.length,Op.bytesLess o[k].1 p.1=true->k+1<=ZCg p o
 |q::o,0,_,_,hb=>by unfold ZCg;rw[if_pos (by simpa using hb)];omega
 |q::o,k+1,hk,h,hb=>by
  unfold ZCg at hk|-;split at hk
  .rename_i hl;rw[if_pos hl];have:=ZT2 p o k J0 (by simpa using h) (by simpa using hb);omega
  .omega
theorem ZLR(p:Av): ∀(o:List Av) (k:Nat),k<=ZCg p o->(∀h:k<o.length,Op.bytesLess o[k].1 p.1=false)->k=ZCg p o
 | [],k,hk,_=>by simp[ZCg]at hk|-;omega
 |q::o,0,_,h=>by
  unfold ZCg;have:=h J1;rw[if_neg (by simpa using this)]
 |q::o,k+1,hk,h=>by
  unfold ZCg at hk|-;split at hk
  .rename_i hl;rw[if_pos hl];have:=ZLR p o k J0 (λh2=>h (Nat.succ_lt_succ h2));omega
  .omega
theorem ZUz(c:UInt8):Ql c=32↔c=32:=by
 by_cases h:65<=c.toNat/\c.toNat<=90
 .have h1:=ZL2 h;constructor
  .intro e;rw[e]at h1;simp at h1;omega
  .rintro rfl;simp at h
 .rw[ZL0 h]
theorem ZTo: ∀s,Kh 32 (ZJ s)=(Kh 32 s).map ZJ
 | []=>rfl
 |b::l=>by
  have ih:=ZTo l;show Kh 32 (Ql b::ZJ l)=_;unfold Kh;by_cases h:b=32
  .rw[if_pos ((ZUz b).2 h),if_pos h,ih];rfl
  .rw[if_neg (λk=>h ((ZUz b).1 k)),if_neg h,ih];cases Kh 32 l with
   |nil=>rfl
   |cons x r=>rfl
theorem ZYw(s:List UInt8):ZEG (ZJ s)=(ZEG s).map ZJ:=by
 unfold ZEG;rw[ZTo,List.filter_map];congr 1;refine Za7 λx _=> ?_
 simp[ZJ]
theorem ZYa: ∀l:List (List UInt8),jn (l.map ZJ)=ZJ (jn l)
 | []=>rfl
 | [x]=>rfl
 |x::y::r=>by
  have:=ZYa (y::r);show ZJ x++32::jn ((y::r).map ZJ)=ZJ (x++32::jn (y::r));rw[this];unfold ZJ;rw[Jt,YL];rfl
theorem Zd0(s:Tx):blk (ZJ s)=ZJ (blk s):=by
 show jn (ZEG (ZJ s))=ZJ (jn (ZEG s));rw[ZYw,ZYa]
def stW:Tx->Bool
 | []=>false
 |c::_=> !decide (c=32)
def gB:Bool->Tx->Tx
 |_,[]=> []
 |st,c::r=>if c=32 then(if(st&&stW r)=true then 32::gB st r else gB st r)else c::gB true r
def jW(l:List Tx):Tx:=if l= []then []else 32::jn l
theorem ZUh(x:Tx)(l:List Tx):jn (x::l)=x++jW l:=by
 unfold jW;split
 .rename_i h;subst h;simp[jn]
 .rename_i h;rw[Zdu h]
theorem ZUI(r:Tx): ∃h t,Kh 32 r=h::t/\(stW r=true↔h≠ []):=by
 rcases r with _|⟨c,r⟩
 .exact⟨[],[],rfl,by simp[stW]⟩
 .unfold Kh;by_cases hc:c=32
  .exact⟨[],Kh 32 r,by rw[if_pos hc],by simp[stW,hc]⟩
  .rw[if_neg hc];split
   .rename_i x l _;exact⟨c::x,l,rfl,by simp[stW,hc]⟩
   .exact⟨[c],[],rfl,by simp[stW,hc]⟩
theorem ZTz: ∀(s:Tx) (h:Tx) (t:List Tx),Kh 32 s=h::t->gB true s=h++jW (t.filter λx=>decide (x≠ []))/\gB false s=jn ((h::t).filter λx=>decide (x≠ []))
 | [],h,t,e=>by
  simp only[Kh,ZEq]at e;obtain⟨rfl,rfl⟩:=e;simp[gB,jW,jn]
 |c::r,h,t,e=>by
  obtain⟨h',t',e',hst⟩:=ZUI r;obtain⟨ih1,ih2⟩:=ZTz r h' t' e';by_cases hc:c=32
  .have e2:Kh 32 (c::r)= []::Kh 32 r:=by rw[Kh,if_pos hc]
   rw[e2,e',ZEq]at e;obtain⟨rfl,rfl⟩:=e;unfold gB;rw[if_pos hc,if_pos hc];refine⟨?_,?_⟩
   .by_cases hs:stW r=true
    .have hn:=hst.1 hs;rw[hs,ZCB,if_pos rfl,ih1,ZAR,ZH5,if_pos (by simpa using hn)]
     conv=>rhs;unfold jW
     rw[if_neg J1,ZUh]
    .have hn:h'= []:=by by_cases hh:h'= [];exact hh;exact absurd (hst.2 hh) hs
     subst hn;rw[if_neg (by simp[hs]),ih1,ZH5];simp
   .rw[ZH4,if_neg (by decide),ih2];exact congrArg jn (by conv=>rhs;rw[ZH5,if_neg J1])
  .have e2:Kh 32 (c::r)=(c::h')::t':=by rw[Kh,if_neg hc,e']
   rw[e2,ZEq]at e;obtain⟨rfl,rfl⟩:=e;unfold gB;rw[if_neg hc,if_neg hc,ih1];refine⟨rfl,?_⟩;rw[ZH5,if_pos J1,ZUh];rfl
theorem Zf8(s:Tx):gB false s=blk s:=by
 obtain⟨h,t,e,-⟩:=ZUI s;rw[(ZTz s h t e).2,<-e];rfl
theorem ZUZ(s:Tx)(j:Nat)(h:j<s.length):s.drop j=s.getD j 0::s.drop (j+1):=by
 rw[ZFj h];simp[h]
theorem ZgD(s:Tx)(j:Nat):stW (s.drop j)=decide (j<s.length/\s.getD j 0≠32):=by
 by_cases h:j<s.length
 .rw[ZUZ s j h];simp[stW,h]
 .rw[ZB2 J0];simp[stW];intro hh;omega
theorem ZfE(s:Tx)(j:Nat)(h:j<s.length):List.drop j (List.take ((j:Int)+1).toNat s)= [s.getD j 0]:=by
 rw[show((j:Int)+1).toNat=j+1 by omega,Jk h,ZcL (by simp;omega),ZB2 (by simp;omega)];simp[h]
theorem ZWV{c:UInt8}:c≠32↔(c.toNat:Int)≠32:=⟨λh e=>h (ZO8.1 (by show c.toNat=32;omega)),λh e=>h (by rw[e];rfl)⟩
theorem ZTk(o:Tx)(c:UInt8):((o++ [c])== [])=false:=by cases o<;>rfl
theorem ZhE(s:Tx)(hl:s.length<=1000000):ZC Tryz.prog 178 [.x (.str s)] (.x (.str (blk s))):=by
 refine ZI.pure (fC 178 true ?_) rfl;intro C0 E0;have uu:=trivial;have tT:=(ZF:SsOk Tryz.prog ZO);refine nz ?_;refine rg tT [0] ?_;refine rg tT [0,3] ?_;refine rg tT [0,3,4] ?_;refine WI.loop (λφ os=> ∃(j:Nat) (o:Tx),φ= [(0,.x (.str s)),(3,.x (.str o)),(4,.x (.int .i64 j))]/\os= []/\j<=s.length/\o.length<=j/\o++gB (!(o== [])) (s.drop j)=blk s) (ZK s.length 4) ?_ (λφ os hI=> ?_)
 .exact⟨0,[],rfl,rfl,J0,Zm _,by rw[ZBk];exact Zf8 s⟩
 .obtain⟨j,o,rfl,rfl,hj,hol,hso⟩:=hI;refine nz ?_;refine rg tT [0,3,4,8] ?_;refine cd (λh0=> ?_) (λh0=> ?_)
  .have hj4:j<s.length:=by omega
   have hda:=ZUZ s j hj4;rw[hda]at hso;have hsl:=ZfE s j hj4;have hw:=ZgD s (j+1);have uu:=Ya uu hsl;refine rg tT [0,3,4,14] ?_;refine cd (λh1=> ?_) (λh1=> ?_)
   .have hc:s.getD j 0≠32:=ZWV.2 (by simpa using h1);have hs2:(o++ [s.getD j 0])++gB (!((o++ [s.getD j 0])== [])) (s.drop (j+1))=blk s:=by
     rw[<-hso]
     conv=>rhs;unfold gB
     rw[if_neg hc,ZTk];simp
    refine rg tT [0,3,4] ?_;refine rg tT [0,3,4] ?_;exact⟨⟨j+1,_,rfl,rfl,J0,by first|omega|(rw[Zf];simp;omega),hs2⟩,by simp[ZK,Ab.get,D.val,ZD];omega⟩
   .have hc:s.getD j 0=32:=ZM0 λhh=>ZWV.1 hh (by simpa using h1)
    refine rg tT [0,3,4,37] ?_;refine cd (λh2=> ?_) (λh2=> ?_)
    .have hs2:(o++ [32])++gB (!((o++ [32])== [])) (s.drop (j+1))=blk s:=by
      rw[<-hso]
      conv=>rhs;unfold gB
      have hst:((!(o== []))&&stW (s.drop (j+1)))=true:=by rw[hw];have:= @ZWV (s.getD (j+1) 0);clear uu hso hda hsl;grind
      have ho:(!(o== []))=true:=by rw[ZS]at hst;exact hst.1
      rw[if_pos hc,if_pos hst,ho,ZTk];simp
     refine rg tT [0,3,4] ?_;refine rg tT [0,3,4] ?_;exact⟨⟨j+1,_,rfl,rfl,J0,by first|omega|(rw[Zf];simp;omega),hs2⟩,by simp[ZK,Ab.get,D.val,ZD];omega⟩
    .have hs2:o++gB (!(o== [])) (s.drop (j+1))=blk s:=by
      rw[<-hso]
      conv=>rhs;unfold gB
      have hst: ¬((!(o== []))&&stW (s.drop (j+1)))=true:=by rw[hw];have:= @ZWV (s.getD (j+1) 0);clear uu hso hda hsl;grind
      rw[if_pos hc,if_neg hst]
     refine rg tT [0,3,4] ?_;exact⟨⟨j+1,_,rfl,rfl,J0,by first|omega|(rw[Zf];simp;omega),hs2⟩,by simp[ZK,Ab.get,D.val,ZD];omega⟩
  .refine rg tT [2] ?_;refine lf ?_;rw[ZB2 J0]at hso;simp only[gB,Ku]at hso;rw[hso]
def ZLk:J8->J5
 | [.x (.str s)]=>some (decide (s.length<=1000000),.x (.str (blk s)))
 |_=>none
theorem ZcX: ∀args r,ZLk args=some (true,r)->ZC Tryz.prog 178 args r:=by
 intro args r h;unfold ZLk at h;split at h
 .rename_i s;simp only[Ze,ZZ,ZS,Zd,true_and]at h;obtain⟨h1,rfl⟩:=h;exact(ZhE s h1)
 .cases h
def ZDJ:J8->J5
 | [.x (.str s)]=>some (decide (s.length<=1000000),.x (.str (ZJ s)))
 |_=>none
theorem ZQf: ∀args r,ZDJ args=some (true,r)->ZC Tryz.prog 97 args r:=by
 intro args r h;unfold ZDJ at h;split at h
 .rename_i s;simp only[Ze,ZZ,ZS,Zd,true_and]at h;obtain⟨h1,rfl⟩:=h;exact(ZSx s J0)
 .cases h
def ZK3:Tabs:=ZT (ZT (ZO) 178 ZLk) 97 ZDJ
theorem ZXC:SsOk Tryz.prog ZK3:=ZH (ZH (ZF) (ZW 178) ZcX) (ZW 97) ZQf
theorem Zal:(∀a,ZK3.q 178 a=ZLk a)/\(∀a,ZK3.q 97 a=ZDJ a)/\(∀f a o,ZK3.r f a o=none)/\(∀f a o,ZK3.k f a o=none):=⟨λ_=>rfl,λ_=>rfl,λ_ _ _=>rfl,λ_ _ _=>rfl⟩
theorem ZhK(s:Tx)(hl:s.length<=1000000):ZC Tryz.prog 147 [.x (.str s)] (.x (.str (fld s))):=by
 have hb:=ZOw s;have hb2:decide ((blk s).length<=1000000)=true:=ZL (by unfold blk;omega);refine ZI.pure (fC 147 true ?_) rfl;intro C0 E0;have uu:=ξ6 @ZLk.eq_1 @ZLk.eq_2 @ZDJ.eq_1 @ZDJ.eq_2 hb2 @Zal;have tT:=ZXC;refine nz ?_;refine rg tT [0] ?_;refine rg tT [2] ?_;refine lf ?_
 first|rfl|exact⟨rfl,rfl⟩|trivial
def ZLt:J8->J5
 | [.x (.str s)]=>some (decide (s.length<=1000000),.x (.str (fld s)))
 |_=>none
theorem Zbr: ∀args r,ZLt args=some (true,r)->ZC Tryz.prog 147 args r:=by
 intro args r h;unfold ZLt at h;split at h
 .rename_i s;simp only[Ze,ZZ,ZS,Zd,true_and]at h;obtain⟨h1,rfl⟩:=h;exact(ZhK s h1)
 .cases h
theorem ZcQ(l:List Av):((rows Zo l).all λr=>decide (r.length=2))=true:=by
 unfold rows;rw[ZFi];exact Yd.2 λ_ _=>rfl
def ZKt:Tabs:=ZT (ZT (ZO) 97 ZDJ) 147 ZLt
theorem ZW5:SsOk Tryz.prog ZKt:=ZH (ZH (ZF) (ZW 97) ZQf) (ZW 147) Zbr
theorem Zcp:(∀a,ZKt.q 97 a=ZDJ a)/\(∀a,ZKt.q 147 a=ZLt a)/\(∀f a o,ZKt.r f a o=none)/\(∀f a o,ZKt.k f a o=none):=⟨λ_=>rfl,λ_=>rfl,λ_ _ _=>rfl,λ_ _ _=>rfl⟩
set_option maxHeartbeats 1000000 in
theorem Zdt(r:List Av)(hr:Yk r=true):ZC Tryz.prog 104 [.x (.sl (rows Zo r))] (.tup [.x (.sl (rows Zo (if KE r=true then Jr r else []))),.x (.bool (KE r))]):=by
 obtain⟨hr8,hr1,hpb⟩:=ZBW hr;have hcr: ∀(T:FuncId->J8->J7->J5) (φ:J4) (os:J7) (n:Nat) (ag:Bool) (x:IO),ZCF T φ os (.ld n ag x)=none:=λ_ _ _ _ _ _=>rfl
 refine ZI.pure (fC 104 true ?_) rfl;intro C0 E0;have uu:=ξ7 @ZDJ.eq_1 @ZDJ.eq_2 @ZLt.eq_1 @ZLt.eq_2 @ZcQ hcr @Zcp;have tT:=ZW5;refine nz ?_;refine rg tT [0] ?_;refine rg tT [0,4] ?_;refine rg tT [0,4,5] ?_;refine WI.ownA 4 188 2 ?_;refine WI.loop (λφ os=> ∃(i:Nat) (o:List Av),φ= [(0,.x (.sl (rows Zo r))),(4,.ref 0 i 0 i),(5,.x (.int .i64 i))]/\os= [.rows false 188 2 (rows Zo o)]/\i<=r.length/\o=ZAc ((r.take i).map ZCU)/\(r.take i).all (λp=> !(fld p.2== []))=true) (ZK r.length 5) ?_ (λφ os hI=> ?_)
 .exact⟨0,[],rfl,rfl,J0,rfl,rfl⟩
 .obtain⟨i,o,rfl,rfl,hi,ho,hall⟩:=hI;have hol:o.length=i:=by rw[ho,ZJB,YX,JA];omega
  refine nz ?_;refine rg tT [0,4,5,12] ?_;refine cd (λh0=> ?_) (λh0=> ?_)
  .have hi4:i<r.length:=by omega
   have hia:=ZCw r i hi4;have hpi:(r.getD i ([],[])).1.length<=64/\(r.getD i ([],[])).2.length<=256:=by rw[show r.getD i ([],[])=r[i] by simp[hi4]];exact hpb _ (YZ hi4)
   have hka3:(r.take (i+1)).all (λp=> !(fld p.2== []))=((r.take i).all (λp=> !(fld p.2== []))&& !(fld (r.getD i ([],[])).2== [])):=by rw[JV _ r i hi4,show r.getD i ([],[])=r[i] by simp[hi4]]
   have hnk:fld (r.getD i ([],[])).2= []->KE r=false:=λh=>YB _ r i hi4 (by rw[show r[i]=r.getD i ([],[]) by simp[hi4],h];rfl)
   have hso:ZDD (ZCU (r.getD i ([],[]))) o=ZAc ((r.take (i+1)).map ZCU):=by rw[Jk hi4,Jt,ZMe,ZZq,<-ho,show r.getD i ([],[])=r[i] by simp[hi4]]
   generalize r.getD i ([],[])=p at hia hpi hka3 hnk hso;have hs1:decide (p.1.length<=1000000)=true:=ZL J0;have hs2:decide (p.2.length<=1000000)=true:=ZL J0;obtain⟨P,hP⟩: ∃P:Av,P=ZCU p:=⟨_,rfl⟩;have hP1:ZJ p.1=P.1:=by rw[hP];rfl
   have hP2:fld p.2=P.2:=by rw[hP];rfl
   rw[<-hP]at hso;have hins:=ZTs P o;have hpl:=ZUf P o;have uu:=ξ6 uu hia hs1 hs2 hP1 hP2;refine WI.dregB tT [0,4,5,6] ?_
   iterate 2 refine Zs ?_
   refine Yp ?_;refine Zs ?_;refine Yp ?_;refine dQC ?_
   iterate 2 refine Zs ?_
   refine Yp ?_;refine Zs ?_;refine Yp ?_;refine dQC ?_;refine Jq ?_;refine dKG ?_;refine dAG ?_;refine dN ?_;refine nz ?_;refine rg tT [0,4,5,6,30] ?_;refine cd (λh1=> ?_) (λh1=> ?_)
   .have hfe:fld p.2= []:=by rw[hP2];simpa using h1
    refine rg tT [2,3] ?_;refine WI.nnA ?_;refine lf ?_;rw[hnk hfe];rfl
   .have hall2:(r.take (i+1)).all (λp=> !(fld p.2== []))=true:=by rw[hka3,hall,hP2];simpa using h1
    refine rg tT [0,4,5,6,7] ?_;refine WI.loop (λφ os=> ∃(k:Nat),φ= [(0,.x (.sl (rows Zo r))),(4,.ref 0 i 0 i),(5,.x (.int .i64 i)),(6,.ptr 1 0),(7,.x (.int .i64 k))]/\os= [.rows false 188 2 (rows Zo o),.box [.x (.str P.1),.x (.str P.2)]]/\k<=ZCg P o) (ZK i 7) ?_ (λφ os hI=> ?_)
    .exact⟨0,rfl,rfl,J0⟩
    .obtain⟨k,rfl,rfl,hk⟩:=hI;refine nz ?_;by_cases hko:k<i
     .have hka:=ZCw o k J0;have hdl:=ZL (show(k:Int)<(i:Int) by omega);have hgo:o.getD k ([],[])=o[k]:=by simp[show k<o.length by omega]
      have uu:=ξ4 uu hka hdl hol;refine WI.dregB tT [0,4,5,6,7,44] ?_
      iterate 2 refine Zs ?_
      refine Yp ?_;refine Jq ?_;refine Zs ?_
      iterate 2 refine Jq ?_
      refine Yp ?_;refine Jq ?_;refine Yp ?_;refine Jq ?_;refine Yp ?_
      iterate 2 refine Jq ?_
      refine dN ?_;refine nz ?_;refine cd (λh2=> ?_) (λh2=> ?_)
      .have hk2:=ZT2 P o k hk J0 (by rw[<-hgo];clear uu;grind);refine rg tT [0,4,5,6,7] ?_;exact⟨⟨k+1,rfl,rfl,hk2⟩,by simp[ZK,Ab.get,D.val,ZD];omega⟩
      .have hkp:=ZLR P o k hk (λhh=>by rw[<-hgo];clear uu;grind);have hki:k<=i:=by omega
       rw[<-hkp]at hins;have e1:(o.take k).length=k:=by rw[JA];omega
       have e2:(o.drop k).take (i-k)=o.drop k:=Yi (by rw[KD];omega);have e3:(o.drop k).length=i-k:=by rw[KD];omega
       have e4:(rows Zo (o.take k)++ [[X.str P.1,X.str P.2]]).length=k+1:=by rw[Zf,Zh,e1];rfl
       have uu:=ξ6 uu e1 e2 e3 e4 hol;refine rg tT [0,4,5,6,7,8] ?_;refine rg tT [0,4,5,6,7,8] ?_;refine rg tT [0,4,5,7,8] ?_;refine rg tT [0,5,8] ?_;refine rgp tT [0,4,5] ?_;refine Jf [2] ?_;refine KR ?_;refine nz ?_;have hfr:rows Zo (o.take k)++ [[X.str P.1,X.str P.2]]++rows Zo (o.drop k)=rows Zo (ZDD P o):=by rw[hins];unfold rows;simp[Zo]
       rw[hfr,show k+1+(i-k)=i+1 by omega];refine WI.orderA [0,4,5] ?_;refine rg tT [0,4,5] ?_;exact⟨⟨i+1,ZDD P o,rfl,rfl,J0,hso,hall2⟩,by simp[ZK,Ab.get,D.val,ZD];omega⟩
     .have hdl:=decide_eq_false (show ¬(k:Int)<(i:Int) by omega);have hka:(rows Zo o)[k]? =none:=ZA2 (by rw[Zh];omega);have uu:=ξ4 uu hdl hol hka;refine WI.dregB tT [0,4,5,6,7,44] ?_
      iterate 2 refine Zs ?_
      refine Yp ?_;refine Jq ?_;refine Zs ?_
      iterate 2 refine Jq ?_
      refine Yp ?_;refine Jq ?_;refine Yp ?_;refine Jq ?_;refine Yp ?_
      iterate 2 refine Jq ?_
      refine dN ?_;refine nz ?_;refine ce (λh2=> ?_) (λh2=> ?_)
      .simp at h2
      .have hkp:=ZLR P o k hk (λhh=>J0);have hki:k<=i:=by omega
       rw[<-hkp]at hins;have e1:(o.take k).length=k:=by rw[JA];omega
       have e2:(o.drop k).take (i-k)=o.drop k:=Yi (by rw[KD];omega);have e3:(o.drop k).length=i-k:=by rw[KD];omega
       have e4:(rows Zo (o.take k)++ [[X.str P.1,X.str P.2]]).length=k+1:=by rw[Zf,Zh,e1];rfl
       have uu:=ξ6 uu e1 e2 e3 e4 hol;refine rg tT [0,4,5,6,7,8] ?_;refine rg tT [0,4,5,6,7,8] ?_;refine rg tT [0,4,5,7,8] ?_;refine rg tT [0,5,8] ?_;refine rgp tT [0,4,5] ?_;refine Jf [2] ?_;refine KR ?_;refine nz ?_;have hfr:rows Zo (o.take k)++ [[X.str P.1,X.str P.2]]++rows Zo (o.drop k)=rows Zo (ZDD P o):=by rw[hins];unfold rows;simp[Zo]
       rw[hfr,show k+1+(i-k)=i+1 by omega];refine WI.orderA [0,4,5] ?_;refine rg tT [0,4,5] ?_;exact⟨⟨i+1,ZDD P o,rfl,rfl,J0,hso,hall2⟩,by simp[ZK,Ab.get,D.val,ZD];omega⟩
  .obtain rfl:i=r.length:=by omega
   rw[Jm]at ho hall;have hf:KE r=true:=hall;have ho2:Jr r=o:=ho.symm;rw[hf,if_pos rfl,ho2];have e5:(rows Zo o).take r.length=rows Zo o:=Yi (by rw[Zh];omega);have e6:o.take r.length=o:=Yi J0;have uu:=ξ4 uu e5 e6 hol;refine rg tT [2,3] ?_;refine WI.nnA ?_;refine lf ?_
   first|rfl|exact⟨rfl,rfl⟩|trivial
def ZIK:J8->J5
 | [.x (.sl R)]=>(Zb Zo R).bind λr=>some (decide (Yk r=true),.tup [.x (.sl (rows Zo (if KE r=true then Jr r else []))),.x (.bool (KE r))])
 |_=>none
theorem ZZC: ∀args r,ZIK args=some (true,r)->ZC Tryz.prog 104 args r:=by
 intro args r h;unfold ZIK at h;split at h
 .rename_i R;obtain⟨r,hr0,h⟩:=Zv h;simp only[Ze,ZZ,ZS,Zd,true_and]at h;obtain⟨h1,rfl⟩:=h;rw[<-Za ZDx hr0];exact(Zdt r h1)
 .cases h
def ZEm:Tabs:=Jz (ZT (ZT (ZT (ZO) 93 ZBx) 104 ZIK) 105 ZHK) 105 (ZAE ZHK)
theorem ZVa:SsOk Tryz.prog ZEm:=JE (ZH (ZH (ZH (ZF) (ZW 93) ZN0) (ZW 104) ZZC) (ZW 105) ZSa) (ZW 105) (ZDv ZSa)
theorem ZYu:(∀a,ZEm.q 93 a=ZBx a)/\(∀a,ZEm.q 104 a=ZIK a)/\(∀a,ZEm.q 105 a=ZHK a)/\(∀a o,ZEm.t 105 a o=Yx (ZAE ZHK) a o)/\(∀f a o,ZEm.r f a o=none)/\(∀f a o,ZEm.k f a o=none):=⟨λ_=>rfl,λ_=>rfl,λ_=>rfl,λ_ _=>rfl,λ_ _ _=>rfl,λ_ _ _=>rfl⟩
theorem ZXw{d:Dn}(hmay: ∀r∈d,Yk r=true):smD (d.map Jr)/\ ∀r∈d.map Jr,r.length<=1000000:=by
 refine⟨λr hr p hp=> ?_,λr hr=> ?_⟩
 .obtain⟨q,hq,rfl⟩:=YO.1 hr;obtain⟨x,hx,rfl⟩:=YO.1 ((ZFU _).mem_iff.1 hp);have:=((ZBW (hmay q hq)).2.2 x hx).1;show(ZJ x.1).length<=900000;unfold ZJ;rw[YX];omega
 .obtain⟨q,hq,rfl⟩:=YO.1 hr;have:=(ZBW (hmay q hq)).1;rw[ZRB];omega
set_option maxHeartbeats 1000000 in
theorem ZfX(s:Tx):ZC Tryz.prog 70 [.x (.str s)] (.tup [.x (.str (JG s).1),.x (.int .i64 (JG s).2)]):=by
 rcases hu:JG s with⟨u,e⟩
 unfold JG at hu;rcases hq:YQ s with⟨d,e0⟩
 rw[hq]at hu;simp only at hu;refine ZI.pure (fC 70 true ?_) rfl;intro C0 E0;have uu:=KT @ZBx.eq_1 @ZBx.eq_2 @ZIK.eq_1 @ZIK.eq_2 @ZHK.eq_1 @ZHK.eq_2 @ZLK @ZOb (JX hq @ZYu @ZAE.eq_1);have tT:=ZVa;refine nz ?_;refine rg tT [0] ?_;refine rg tT [4,5] ?_;refine rg tT [4,5,16] ?_;refine cd (λh0=> ?_) (λh0=> ?_)
 .refine rg tT [2,3] ?_;refine WI.nnA ?_;refine lf ?_;rw[if_pos (by simpa using h0)]at hu;cases hu;rfl
 .obtain rfl:e0=0:=by simpa using h0
  rw[if_neg J1]at hu;have hck:Je d=0:=by
   by_cases hs:s= []
   .subst hs;rw[ZPz]at hq;cases hq;rfl
   .exact(ZJK s d hq hs).2.2.2.2
  obtain⟨hd32,hmay⟩:=ZD3 hck;refine rg tT [4,6] ?_;refine rg tT [4,6,7] ?_;refine WI.ownA 6 154 1 ?_;refine WI.loop (λφ os=> ∃(j:Nat),φ= [(4,.x (.sl (rows JU d))),(6,.ref 0 j 0 j),(7,.x (.int .i64 j))]/\os= [.rows false 154 1 (rows JU ((d.take j).map Jr))]/\j<=d.length/\(d.take j).all KE=true) (ZK d.length 7) ?_ (λφ os hI=> ?_)
  .exact⟨0,rfl,rfl,J0,rfl⟩
  .obtain⟨j,rfl,rfl,hj,hall⟩:=hI;refine nz ?_;refine rg tT [4,6,7,21] ?_;refine cd (λh1=> ?_) (λh1=> ?_)
   .have hj4:j<d.length:=by omega
    have hdj:d[j]=d.getD j []:=by simp[hj4]
    have hmr:Yk (d.getD j [])=true:=by rw[<-hdj];exact hmay _ (YZ hj4)
    have hst:(d.take (j+1)).map Jr=(d.take j).map Jr++ [Jr (d.getD j [])]:=by rw[Jk hj4,Jt,hdj];rfl
    have hall3:(d.take (j+1)).all KE=((d.take j).all KE&&KE (d.getD j [])):=by rw[JV _ d j hj4,hdj]
    have hnf:KE (d.getD j [])=false->d.all KE=false:=λh=>YB KE d j hj4 (by rw[hdj];exact h)
    have hmd:=ZL hmr;have uu:=JX uu (ZEc d j hj4) hmd;refine rg tT [4,6,7,8,9] ?_;refine rg tT [4,6,7,8,33] ?_;refine cd (λh2=> ?_) (λh2=> ?_)
    .have hff:KE (d.getD j [])=false:=by simpa using h2
     rw[if_neg (by rw[hnf hff];decide)]at hu;refine rg tT [2,3] ?_;refine WI.nnA ?_;refine lf ?_;cases hu;rfl
    .have hff:KE (d.getD j [])=true:=by simpa using h2
     have hall2:(d.take (j+1)).all KE=true:=by rw[hall3,hall,hff];rfl
     rw[hff,if_pos rfl];refine rgp tT [4,6,7] ?_;refine Jf [0] ?_;refine KR ?_;refine nz ?_;refine WI.orderA [4,6,7] ?_;refine rg tT [4,6,7] ?_;exact⟨⟨j+1,rfl,by rw[hst,<-ZJg];first|done|rfl,J0,hall2⟩,by simp[ZK,Ab.get,D.val,ZD];omega⟩
   .obtain rfl:j=d.length:=by omega
    rw[Jm]at hall|-;rw[if_pos hall]at hu;obtain⟨hn1,hn2⟩:=ZXw hmay;have hnl:(d.map Jr).length=d.length:=YX ..;have hcc:(decide (smD (d.map Jr))&&(decide ((d.map Jr).length<=1000000)&&decide (∀r∈d.map Jr,r.length<=1000000)))=true:=by rw[ZL hn1,ZL hn2,ZL (show(d.map Jr).length<=1000000 by omega)];rfl
    generalize d.map Jr=M at hu hnl hcc|-;rw[<-hnl];have uu:=ξ4 uu hcc (ZLK M) (@Jm _ M);refine rg tT [2,3] ?_;refine WI.nnA ?_;refine lf ?_;rw[hu]
def ZIY:J8->J5
 | [.x (.str s)]=>some (true,.tup [.x (.str (JG s).1),.x (.int .i64 (JG s).2)])
 |_=>none
theorem ZYF: ∀args r,ZIY args=some (true,r)->ZC Tryz.prog 70 args r:=by
 intro args r h;unfold ZIY at h;split at h
 .rename_i s;simp only[Ze,ZZ,ZS,Zd,true_and]at h;obtain rfl:=h;exact(ZfX s)
 .cases h
def Kj(k:Int)(s:Tx):Tx×Bool:=
 if s.length>4096 then([],false)else if k=1 then(fld s,!(fld s== []))else if k=2 then(blk s,!(blk s== []))else if k=3 then ZGB s
 else if k=4 then(s,true)else if k=5 then((JG s).1,(JG s).2==0)else([],false)
def ZBs:J8->J5
 | [.x (.str s)]=>some (true,.tup [.x (.str (JG s).1),.x (.int .i64 (JG s).2)])
 |_=>none
theorem ZNL: ∀args r,ZBs args=some (true,r)->ZC Tryz.prog 96 args r:=by
 intro args r h;unfold ZBs at h;split at h
 .rename_i s;simp only[Ze,ZZ,ZS,Zd,true_and]at h;obtain rfl:=h;exact(ZfY s)
 .cases h
def ZLc:J8->J5
 | [.x (.str s)]=>some (decide (s.length<=1000000),.x (.str (blk s)))
 |_=>none
theorem Zcf: ∀args r,ZLc args=some (true,r)->ZC Tryz.prog 174 args r:=by
 intro args r h;unfold ZLc at h;split at h
 .rename_i s;simp only[Ze,ZZ,ZS,Zd,true_and]at h;obtain⟨h1,rfl⟩:=h;exact(ZR0 s h1)
 .cases h
def ZLs:J8->J5
 | [.x (.str s)]=>some (true,.tup [.x (.str (ZGB s).1),.x (.bool (ZGB s).2)])
 |_=>none
theorem Za6: ∀args r,ZLs args=some (true,r)->ZC Tryz.prog 182 args r:=by
 intro args r h;unfold ZLs at h;split at h
 .rename_i s;simp only[Ze,ZZ,ZS,Zd,true_and]at h;obtain rfl:=h;exact(Zhk s)
 .cases h
def ZG1:Tabs:=ZT (ZT (ZT (ZT (ZO) 63 QO) 174 ZLc) 182 ZLs) 96 ZBs
theorem ZWh:SsOk Tryz.prog ZG1:=ZH (ZH (ZH (ZH (ZF) (ZW 63) ZJv) (ZW 174) Zcf) (ZW 182) Za6) (ZW 96) ZNL
theorem Zck:(∀a,ZG1.q 63 a=QO a)/\(∀a,ZG1.q 174 a=ZLc a)/\(∀a,ZG1.q 182 a=ZLs a)/\(∀a,ZG1.q 96 a=ZBs a)/\(∀f a o,ZG1.r f a o=none)/\(∀f a o,ZG1.k f a o=none):=⟨λ_=>rfl,λ_=>rfl,λ_=>rfl,λ_=>rfl,λ_ _ _=>rfl,λ_ _ _=>rfl⟩
theorem Zeu(k:Int)(s:Tx):ZC Tryz.prog 154 [.x (.int .i64 k),.x (.str s)] (.tup [.x (.str (Kj k s).1),.x (.bool (Kj k s).2)]):=by
 rcases hu:Kj k s with⟨u,b⟩
 unfold Kj at hu;have hbl:=Zd0 s;have hfl:fld s=ZJ (blk s):=rfl;have hll:(ZJ s).length=s.length:=by unfold ZJ;rw[YX]
 refine ZI.pure (fC 154 true ?_) rfl;intro C0 E0;have uu:=KT @QO.eq_1 @QO.eq_2 @ZLc.eq_1 @ZLc.eq_2 @ZLs.eq_1 @ZLs.eq_2 @ZBs.eq_1 @ZBs.eq_2 (JX hbl hll @Zck);have tT:=ZWh;refine nz ?_;refine rg tT [0,1] ?_;refine rg tT [0,1,11] ?_;refine cd (λh0=> ?_) (λh0=> ?_)
 .refine rg tT [4,5] ?_;refine lf ?_
  (clear uu;grind)
 .refine rg tT [0,1,6] ?_;refine rg tT [1,6,13] ?_;refine rg tT [1,6,13,14] ?_;refine cd (λh1=> ?_) (λh1=> ?_)
  .refine rg tT [6] ?_;refine rg tT [6] ?_;refine rg tT [4,5] ?_;refine lf ?_
   (clear uu;grind)
  .refine rg tT [1,6,13,16] ?_;refine cd (λh2=> ?_) (λh2=> ?_)
   .refine rg tT [6] ?_;refine rg tT [4,5] ?_;refine lf ?_
    (clear uu;grind)
   .refine rg tT [1,13,18] ?_;refine cd (λh3=> ?_) (λh3=> ?_)
    .refine rg tT [4,5] ?_;refine lf ?_
     (clear uu;grind)
    .refine rg tT [1,13,20] ?_;refine cd (λh4=> ?_) (λh4=> ?_)
     .refine rg tT [4,5] ?_;refine lf ?_
      (clear uu;grind)
     .refine rg tT [1,22] ?_;refine cd (λh5=> ?_) (λh5=> ?_)
      .refine rg tT [7,8] ?_;refine rg tT [4,5] ?_;refine lf ?_
       (clear uu;grind)
      .refine rg tT [4,5] ?_;refine lf ?_
       (clear uu;grind)
def Ks:J8->J5
 | [.x (.int .i64 k),.x (.str s)]=>some (true,.tup [.x (.str (Kj k s).1),.x (.bool (Kj k s).2)])
 |_=>none
theorem ZKi: ∀args r,Ks args=some (true,r)->ZC Tryz.prog 154 args r:=by
 intro args r h;unfold Ks at h;split at h
 .rename_i k s;simp only[Ze,ZZ,ZS,Zd,true_and]at h;obtain rfl:=h;exact(Zeu k s)
 .cases h
def eqV(k:Int)(a b:Tx):Int:=if(Kj k a).2=true/\(Kj k b).2=true then(if(Kj k a).1=(Kj k b).1 then 1 else 0)else 2
abbrev Zl:=Tx×(Int×(Bool×Unit))
abbrev JF:RC Zl:=JT ZB (JT (ZBZ .i64) (JT ZNv ZAg))
theorem KL:JF.Good:=Ym ZP (Ym (ZAs .i64) (Ym ZVb ZAo))
abbrev Zy:=Tx×(List Tx×(List Tx×Unit))
abbrev Qa:RC Zy:=JT ZB (JT (rSl ZB) (JT (rSl ZB) ZAg))
theorem Kw:Qa.Good:=Ym ZP (Ym (ZCZ ZP) (Ym (ZCZ ZP) ZAo))
def Zfk(t:Zl):Zl:=(ZJ t.1,t.2)
def ZFw(c:Zy):Zy:=(ZJ c.1,c.2.1.map ZJ,c.2.2.1.map ZJ,())
def tyL(T:List Zl):List (Tx×Zl):=T.map λt=>(ZJ t.1,Zfk t)
def clL(C:List Zy):List (Tx×Zy):=C.map λc=>(ZJ c.1,ZFw c)
def JQ(L:List (Tx×Zl)):W2:=Yg KU JF.enc L
def JL(M:List (Tx×Zy)):W2:=Yg KU Qa.enc M
abbrev scO(L:List (Tx×Zl))(M:List (Tx×Zy)):J7:= [.box [.mref 1,.mref 2],.mpo .str true (JQ L),.mpo .str true (JL M)]
def tyV(L:List (Tx×Zl))(k:Tx):Zl:=(ZG L k).getD ([],0,false,())
def clV(M:List (Tx×Zy))(k:Tx):Zy:=(ZG M k).getD ([],[],[],())
def tyD(t:Zl):D:= .agg [.x (.str t.1),.x (.int .i64 t.2.1),.x (.bool t.2.2.1)]
def clD(c:Zy):D:= .agg [.x (.str c.1),.x (.sl (rows ZB c.2.1)),.x (.sl (rows ZB c.2.2.1))]
theorem ZgZ(L:List (Tx×Zl))(k:Tx):JZ (JQ L) [X.str k]=(ZG L k).map λt=> [.x (.str t.1),.x (.int .i64 t.2.1),.x (.bool t.2.2.1)]:=by
 unfold JQ;rw[ZEp KU JF.enc hkS L k];rfl
theorem ZhQ(M:List (Tx×Zy))(k:Tx):JZ (JL M) [X.str k]=(ZG M k).map λc=> [.x (.str c.1),.x (.sl (rows ZB c.2.1)),.x (.sl (rows ZB c.2.2.1))]:=by
 unfold JL;rw[ZEp KU Qa.enc hkS M k];rfl
theorem Zfy(L:List (Tx×Zl))(k:Tx)(t:Zl):Yb (JQ L) [X.str k] [.x (.str t.1),.x (.int .i64 t.2.1),.x (.bool t.2.2.1)]=JQ (Zt L k t):=ZDd KU JF.enc hkS L k t
theorem Zfb(M:List (Tx×Zy))(k:Tx)(c:Zy):Yb (JL M) [X.str k] [.x (.str c.1),.x (.sl (rows ZB c.2.1)),.x (.sl (rows ZB c.2.2.1))]=JL (Zt M k c):=ZDd KU Qa.enc hkS M k c
theorem ZCq(f:Nat->Nat)(L:List (Tx×Zl)):(JQ L).map (Jb f)=JQ L:=ZAM _ _ _ _
theorem ZCX(f:Nat->Nat)(M:List (Tx×Zy)):(JL M).map (Jb f)=JL M:=ZAM _ _ _ _
theorem ZDQ(L:List (Tx×Zl)):ZCc (JQ L)= []:=ZCe _ _ _
theorem ZDV(M:List (Tx×Zy)):ZCc (JL M)= []:=ZCe _ _ _
theorem ZAT(p:Nat->Bool)(L:List (Tx×Zl)):(JQ L).all (ZAN p)=true:=Qp _ _ _ _
theorem ZAQ(p:Nat->Bool)(M:List (Tx×Zy)):(JL M).all (ZAN p)=true:=Qp _ _ _ _
theorem ZhY(ρ:W0)(os:J7)(L:List (Tx×Zl)):(JQ L).map (mpP (onF ρ os))=JQ L:=ZEj _ _ _ _ _
theorem Zhf(ρ:W0)(os:J7)(M:List (Tx×Zy)):(JL M).map (mpP (onF ρ os))=JL M:=ZEj _ _ _ _ _
theorem ZFz(L:List (Tx×Zl)):unM ZB JF (JQ L)=some L:=ZRP ZP KL L
theorem ZFy(M:List (Tx×Zy)):unM ZB Qa (JL M)=some M:=ZRP ZP Kw M
theorem ZBu(L:List (Tx×Zl))(M:List (Tx×Zy)):(scO L M).all (Ob.inP (λi=>decide (i<(scO L M).length)))=true:=by
 simp[Ob.inP,Yo,D.inP,ZAT,ZAQ]
def YC:J8->J5
 | [.x (.str s)]=>some (decide (s.length<=140737488355328),.x (.str (ZJ s)))
 |_=>none
theorem ZAu: ∀args r,YC args=some (true,r)->ZC Tryz.prog 63 args r:=by
 intro args r h;unfold YC at h;split at h
 .rename_i s;simp only[Ze,ZZ,ZS,Zd,true_and]at h;obtain⟨h1,rfl⟩:=h;exact(ZO3 s h1)
 .cases h
def ZOD:Tabs:=ZT (ZO) 63 YC
theorem ZP6:SsOk Tryz.prog ZOD:=ZH (ZF) (ZW 63) ZAu
theorem ZSo:(∀a,ZOD.q 63 a=YC a)/\(∀f a o,ZOD.r f a o=none)/\(∀f a o,ZOD.k f a o=none):=⟨λ_=>rfl,λ_ _ _=>rfl,λ_ _ _=>rfl⟩
theorem ZZi(L:List (Tx×Zl))(M:List (Tx×Zy))(n:Tx)(hn:n.length<=140737488355328):ZN Tryz.prog 74 [.ptr 0 0,.x (.str n)] (scO L M) (.tup [tyD (tyV L (ZJ n)),.x (.bool (ZG L (ZJ n)).isSome)]) (scO L M):=by
 have hg:=ZgZ L (ZJ n);have hO:=ZBu L M;unfold tyV;rcases hm:ZG L (ZJ n)with _|⟨a,k,b,u⟩
 .rw[hm,Qg]at hg;refine ZI.mcallsX (fC 74 true ?_) (by first|decide|(simp;done)) hO (by first|rfl|exact hR);intro C0 E0;have uu:=ξ4 @YC.eq_1 @YC.eq_2 hg @ZSo;have tT:=ZP6;refine nz ?_;refine rg tT [0,1,4] ?_;refine WI.dregB tT [4,6,7] ?_
  iterate 3 refine Zs ?_
  refine Yp ?_;refine Zs ?_;refine dQC ?_;refine Yp ?_;refine Zs ?_
  iterate 2 refine Jq ?_
  refine dKG ?_;refine dAG ?_;refine Zs ?_;refine dN ?_;refine nz ?_;refine rg tT [4,5] ?_;refine lf ?_;exact⟨rfl,_,rfl⟩
 .rw[hm,Yf]at hg;refine ZI.mcallsX (fC 74 true ?_) (by first|decide|(simp;done)) hO (by first|rfl|exact hR);intro C0 E0;have uu:=ξ4 @YC.eq_1 @YC.eq_2 hg @ZSo;have tT:=ZP6;refine nz ?_;refine rg tT [0,1,4] ?_;refine WI.dregB tT [4,6,7] ?_
  iterate 3 refine Zs ?_
  refine Yp ?_;refine Zs ?_;refine dQC ?_;refine Yp ?_;refine Zs ?_
  iterate 2 refine Jq ?_
  refine dKG ?_;refine dAG ?_;refine Zs ?_;refine dN ?_;refine nz ?_;refine rg tT [4,5] ?_;refine lf ?_;exact⟨rfl,_,rfl⟩
def ZFG:J8->J7->Option (Bool×D×J7)
 | [.ptr 0 0,.x (.str n)],[.box [.mref 1,.mref 2],.mpo .str true P1,.mpo .str true P2]=>(unM ZB JF P1).bind λL=>(unM ZB Qa P2).bind λM=>some (decide (n.length<=140737488355328),.tup [tyD (tyV L (ZJ n)),.x (.bool (ZG L (ZJ n)).isSome)],[.box [.mref 1,.mref 2],.mpo .str true (JQ L),.mpo .str true (JL M)])
 |_,_=>none
theorem ZSR: ∀args os r os',ZFG args os=some (true,r,os')->ZN Tryz.prog 74 args os r os':=by
 intro args os r os' h;unfold ZFG at h;split at h
 .rename_i n P1 P2;obtain⟨L,hm0,h⟩:=Zv h;obtain⟨M,hm1,h⟩:=Zv h;simp only[Ze,ZZ,ZS,Zd,true_and]at h;obtain⟨h1,rfl,rfl⟩:=h;rw[Jd ZP KL hm0];rw[Jd ZP Kw hm1];exact ZZi L M n h1
 .cases h
def ZBp:J8->J7->J5
 | [.ptr 0 0,.x (.str n)],[.box [.mref 1,.mref 2],.mpo .str true P1,.mpo .str true P2]=>(unM ZB JF P1).bind λL=>(unM ZB Qa P2).bind λM=>some (decide (n.length<=140737488355328),.tup [tyD (tyV L (ZJ n)),.x (.bool (ZG L (ZJ n)).isSome)])
 |_,_=>none
theorem ZQD: ∀args os r,ZBp args os=some (true,r)->r.clean=true/\ ∃X,ZN Tryz.prog 74 args os r (os++X):=by
 intro args os r h;unfold ZBp at h;split at h
 .rename_i n P1 P2;obtain⟨L,hm0,h⟩:=Zv h;obtain⟨M,hm1,h⟩:=Zv h;simp only[Ze,ZZ,ZS,Zd,true_and]at h;obtain⟨h1,rfl⟩:=h;rw[Jd ZP KL hm0];rw[Jd ZP Kw hm1];exact⟨rfl,[],by rw[Ku];exact ZZi L M n h1⟩
 .cases h
def ZKm:Tabs:=ZHw (ZO) 74 ZBp
theorem ZAn:SsOk Tryz.prog ZKm:=ZEs (ZF) (ZW 74) ZQD
theorem Zbo:(∀a,ZKm.q 74 a=none)/\(∀a o,ZKm.t 74 a o=(QJ ZBp a o).map λr=>(r.1,r.2,o))/\(∀a o,ZKm.r 74 a o=QJ ZBp a o)/\(∀f a o,ZKm.k f a o=none):=⟨λ_=>rfl,λ_ _=>rfl,λ_ _=>rfl,λ_ _ _=>rfl⟩
def ZLE:Tabs:=Jz (ZO) 74 ZFG
theorem ZYL:SsOk Tryz.prog ZLE:=JE (ZF) (ZW 74) ZSR
theorem ZaS:(∀a,ZLE.q 74 a=none)/\(∀a o,ZLE.t 74 a o=Yx ZFG a o)/\(∀f a o,ZLE.r f a o=none)/\(∀f a o,ZLE.k f a o=none):=⟨λ_=>rfl,λ_ _=>rfl,λ_ _ _=>rfl,λ_ _ _=>rfl⟩
theorem ZgT(L:List (Tx×Zl))(M:List (Tx×Zy))(n:Tx)(hn:n.length<=140737488355328):ZN Tryz.prog 122 [.ptr 0 0,.x (.str n)] (scO L M) (.tup [tyD (tyV L (ZJ n)),.x (.bool (ZG L (ZJ n)).isSome)]) (scO L M):=by
 have hO:=ZBu L M;have h1:=ZFz L;have h2:=ZFy M;unfold tyD;refine ZI.mcallsX (fC 122 true ?_) (by first|decide|(simp;done)) hO (by first|rfl|exact hR);intro C0 E0;have uu:=KT @ZFG.eq_1 @ZFG.eq_2 h1 h2 @tyD.eq_1 @ZCq @ZCX @ZDQ (ξ4 @ZDV @ZAT @ZAQ @ZaS);have tT:=ZYL;refine nz ?_;refine rg tT [0,1,4] ?_;refine rg tT [0,1,4,7] ?_;refine ce (λh0=> ?_) (λh0=> ?_)
 .simp at h0
 .refine rg tT [4,5] ?_;refine lf ?_;exact⟨rfl,_,rfl⟩
def ZOM:Tabs:=ZT (ZO) 63 YC
theorem ZQV:SsOk Tryz.prog ZOM:=ZH (ZF) (ZW 63) ZAu
theorem ZRv:(∀a,ZOM.q 63 a=YC a)/\(∀f a o,ZOM.r f a o=none)/\(∀f a o,ZOM.k f a o=none):=⟨λ_=>rfl,λ_ _ _=>rfl,λ_ _ _=>rfl⟩
theorem ZeU(L:List (Tx×Zl))(M:List (Tx×Zy))(n:Tx)(hn:n.length<=140737488355328):ZN Tryz.prog 119 [.ptr 0 0,.x (.str n)] (scO L M) (.tup [clD (clV M (ZJ n)),.x (.bool (ZG M (ZJ n)).isSome)]) (scO L M):=by
 have hg:=ZhQ M (ZJ n);have hO:=ZBu L M;unfold clV;rcases hm:ZG M (ZJ n)with _|⟨a,m,y,u⟩
 .rw[hm,Qg]at hg;refine ZI.mcallsX (fC 119 true ?_) (by first|decide|(simp;done)) hO (by first|rfl|exact hR);intro C0 E0;have uu:=ξ4 @YC.eq_1 @YC.eq_2 hg @ZRv;have tT:=ZQV;refine nz ?_;refine rg tT [0,1,4] ?_;refine rg tT [0,1,4,9] ?_;refine ce (λh0=> ?_) (λh0=> ?_)
  .simp at h0
  .refine WI.dregB tT [4,6,7] ?_
   iterate 4 refine Zs ?_
   refine Yp ?_;refine Zs ?_;refine dQC ?_;refine Yp ?_;refine Zs ?_
   iterate 2 refine Jq ?_
   refine dKG ?_;refine dAG ?_;refine Zs ?_;refine dN ?_;refine nz ?_;refine rg tT [4,5] ?_;refine WI.nnA ?_;refine lf ?_;exact⟨rfl,_,rfl⟩
 .rw[hm,Yf]at hg;refine ZI.mcallsX (fC 119 true ?_) (by first|decide|(simp;done)) hO (by first|rfl|exact hR);intro C0 E0;have uu:=ξ4 @YC.eq_1 @YC.eq_2 hg @ZRv;have tT:=ZQV;refine nz ?_;refine rg tT [0,1,4] ?_;refine rg tT [0,1,4,9] ?_;refine ce (λh0=> ?_) (λh0=> ?_)
  .simp at h0
  .refine WI.dregB tT [4,6,7] ?_
   iterate 4 refine Zs ?_
   refine Yp ?_;refine Zs ?_;refine dQC ?_;refine Yp ?_;refine Zs ?_
   iterate 2 refine Jq ?_
   refine dKG ?_;refine dAG ?_;refine Zs ?_;refine dN ?_;refine nz ?_;refine rg tT [4,5] ?_;refine lf ?_;exact⟨rfl,_,rfl⟩
def ZIP:J8->J7->Option (Bool×D×J7)
 | [.ptr 0 0,.x (.str n)],[.box [.mref 1,.mref 2],.mpo .str true P1,.mpo .str true P2]=>(unM ZB JF P1).bind λL=>(unM ZB Qa P2).bind λM=>some (decide (n.length<=140737488355328),.tup [clD (clV M (ZJ n)),.x (.bool (ZG M (ZJ n)).isSome)],[.box [.mref 1,.mref 2],.mpo .str true (JQ L),.mpo .str true (JL M)])
 |_,_=>none
theorem ZYk: ∀args os r os',ZIP args os=some (true,r,os')->ZN Tryz.prog 119 args os r os':=by
 intro args os r os' h;unfold ZIP at h;split at h
 .rename_i n P1 P2;obtain⟨L,hm0,h⟩:=Zv h;obtain⟨M,hm1,h⟩:=Zv h;simp only[Ze,ZZ,ZS,Zd,true_and]at h;obtain⟨h1,rfl,rfl⟩:=h;rw[Jd ZP KL hm0];rw[Jd ZP Kw hm1];exact ZeU L M n h1
 .cases h
def ZL3:J8->J7->Option (Bool×D×J7)
 | [.ref 0 n 0 n',.x (.int .i64 i),.ref 1 1 0 1],[.rows false e 2 rs,.rows false e' 2 [r]]=>some (decide (n=rs.length/\n'=rs.length/\0<=i/\i<=rs.length/\rs.length<=1000000/\e=94/\e'=94),.ref 0 (n+1) 0 (n+1),[.rows false e 2 (YN rs i.toNat [r]),.rows false e' 2 [r]])
 |_,_=>none
theorem Zbe: ∀args os r os',ZL3 args os=some (true,r,os')->ZN Tryz.prog 126 args os r os':=by
 intro args os r os' h;unfold ZL3 at h;split at h
 .rename_i n n' i e rs e' r0;simp only[Ze,ZZ,Zd]at h;obtain⟨⟨rfl,rfl,h0,h1,h2,rfl,rfl⟩,rfl,rfl⟩:=h;have h:=ZgI rs r0 i.toNat J0 h2;rwa [show((i.toNat:Nat):Int)=i by omega]at h
 .cases h
def ZDX:J8->J5
 | [.x (.sl [[.nils],[.sl R]])]=>(Zb ZB R).map λb=>(decide (b.length<=100000),.x (.sl (rows ZB b)))
 | [.x (.sl [[.sl R],[.sl R']])]=>(Zb ZB R).bind λa=>(Zb ZB R').map λb=>(decide (a.length<=100000/\b.length<=100000),.x (.sl (rows ZB (a++b))))
 |_=>none
theorem ZS4: ∀args r,ZDX args=some (true,r)->ZC Tryz.prog 73 args r:=by
 intro args r h;unfold ZDX at h;split at h
 .rename_i R;obtain⟨b,h1,h2⟩:=Zc h;simp only[ZZ,Zd]at h2;obtain⟨h3,rfl⟩:=h2;rw[<-Za ZP h1];exact ZU3 b h3
 .rename_i R R';obtain⟨a,h1,h⟩:=Zv h;obtain⟨b,h2,h3⟩:=Zc h;simp only[ZZ,Zd]at h3;obtain⟨h4,rfl⟩:=h3;rw[<-Za ZP h1,<-Za ZP h2];exact ZSz a b h4.1 h4.2
 .cases h
def ZBI(l:List ZY)(n:List UInt8)(vs:List (List UInt8)):List ZY:=if vs= []then l else l.take (Zx l n)++ [(n,ZEK [] (Ky l n++vs),())]++ZCM l n
theorem ZGx{l:List ZY}{n:List UInt8}(h:ZCS l n=true):Zx l n<l.length:=by
 unfold ZCS at h;split at h
 .rename_i a ha;exact(ZV ha).1
 .cases h
theorem ZIk{l:List ZY}{n:List UInt8}(h:ZCS l n=true):(rows ZX l)[Zx l n]? =some [.str n,.sl (rows ZB (Ky l n))]/\ ∀out,(rows ZX l).set (Zx l n) [.str n,.sl (rows ZB out)]=rows ZX (l.take (Zx l n)++ [(n,out,())]++ZCM l n):=by
 have hp:=ZGx h;have he:=ZUK l n hp h;constructor
 .rw[ZOE l _ hp];unfold Ky;have e:(l.getD (Zx l n) ([],[],())).1=n:=by rw[show l.getD (Zx l n) ([],[],())=l[Zx l n] by simp[hp]];exact he
  rw[if_pos h,e]
 .intro out;unfold ZCM;rw[if_pos h];have e: [X.str n,.sl (rows ZB out)]=ZX.enc (n,out,()):=rfl;rw[e];unfold rows;rw[<-ZMz,List.set_eq_take_append_cons_drop,if_pos hp];simp
theorem ZNC{l:List ZY}{n:List UInt8}(h:ZCS l n=false):(YN (rows ZX l) (Zx l n) [[.str n,.nils]])[Zx l n]? =some [.str n,.nils]/\ ∀out,(YN (rows ZX l) (Zx l n) [[.str n,.nils]]).set (Zx l n) [.str n,.sl (rows ZB out)]=rows ZX (l.take (Zx l n)++ [(n,out,())]++ZCM l n):=by
 have hp:=ZGb l n;have hl:((rows ZX l).take (Zx l n)).length=Zx l n:=by rw[JA,Zh];omega
 constructor
 .unfold YN;rw[Yh,QP J0,hl,ZJR];rfl
 .intro out;unfold ZCM YN;rw[if_neg (by rw[h];decide),Yh,ZEH _ _ J0,hl,ZJR];unfold rows;rw[<-ZVM,<-List.map_drop,Jt,Jt];simp[ZX,JT,ZB,rSl,ZAg,rows]
theorem ZUL(l:List (List UInt8))(x:List UInt8):rows ZB (l++ [x])=rows ZB l++ [[X.str x]]:=by simp[rows,ZB]
theorem ZS6{l:List ZY}{n:List UInt8}(hb: ∀a∈l,a.2.1.length<=50000):(Ky l n).length<=50000:=by
 unfold Ky;split
 .rename_i h;have hp:=ZGx h;rw[show l.getD (Zx l n) ([],[],())=l[Zx l n] by simp[hp]];exact hb _ (YZ hp)
 .simp
theorem Zc8(acc:List (List UInt8))(v:List UInt8):ZPQ acc v=if v∈acc then acc else acc++ [v]:=rfl
def ZCl:Tabs:=Jz (ZT (Jz (ZT (Jz (ZT (ZT (ZO) 63 YC) 124 ZHy) 126 ZL3) 73 ZDX) 73 (ZAE ZDX)) 127 ZHe) 127 (ZAE ZHe)
theorem Jc:SsOk Tryz.prog ZCl:=JE (ZH (JE (ZH (JE (ZH (ZH (ZF) (ZW 63) ZAu) (ZW 124) ZUr) (ZW 126) Zbe) (ZW 73) ZS4) (ZW 73) (ZDv ZS4)) ZL9 ZRF) ZL9 (ZDv ZRF)
theorem ZZ5:(∀a,ZCl.q 63 a=YC a)/\(∀a,ZCl.q 124 a=ZHy a)/\(∀a,ZCl.q 126 a=none)/\(∀a o,ZCl.t 126 a o=Yx ZL3 a o)/\(∀a,ZCl.q 73 a=ZDX a)/\(∀a o,ZCl.t 73 a o=Yx (ZAE ZDX) a o)/\(∀a,ZCl.q 127 a=ZHe a)/\(∀a o,ZCl.t 127 a o=Yx (ZAE ZHe) a o)/\(∀f a o,ZCl.r f a o=none)/\(∀f a o,ZCl.k f a o=none):=⟨λ_=>rfl,λ_=>rfl,λ_=>rfl,λ_ _=>rfl,λ_=>rfl,λ_ _=>rfl,λ_=>rfl,λ_ _=>rfl,λ_ _ _=>rfl,λ_ _ _=>rfl⟩
set_option maxHeartbeats 4000000 in
theorem Zhn(l:List ZY)(attr:List UInt8)(vs:List (List UInt8))(hs:SoA l)(hl:l.length<=100000)(ha:attr.length<=140737488355328)(hv:vs.length<=50000)(hb: ∀a∈l,a.2.1.length<=50000):ZN Tryz.prog 80 [.ref 0 l.length 0 l.length,.x (.str attr),.x (.sl (rows ZB vs))] [.rows false 94 2 (rows ZX l)] (.ref 0 (ZBI l (ZJ attr) vs).length 0 (ZBI l (ZJ attr) vs).length) [.rows false 94 2 (rows ZX (ZBI l (ZJ attr) vs))]:=by
 have hO: [Ob.rows false 94 2 (rows ZX (ZBI l (ZJ attr) vs))].all (Ob.inP (λi=>decide (i< [Ob.rows false 94 2 (rows ZX (ZBI l (ZJ attr) vs))].length)))=true:=rfl;have hda:=ZL ha;have hds:decide (SoA l/\l.length<=1000000)=true:=ZL ⟨hs,J0⟩;have hul:Zb ZX (rows ZX l)=some l:=Zr YR l;obtain⟨n,hn⟩: ∃n,ZJ attr=n:=⟨_,rfl⟩;rw[hn]at hO|-;have hpl:=ZGb l n;rcases hres:ZBI l n vs with res
 unfold ZBI at hres;have htl:l.take l.length=l:=Jm;have hbl:(Ky l n).length<=50000:=ZS6 hb;have hcn:ZCS l n=false->ZDX [.x (.sl [[.nils],[.sl (rows ZB vs)]])]=some (true,.x (.sl (rows ZB (Ky l n++vs)))):=λh=>by
  show((Zb ZB (rows ZB vs)).map λb=>(decide (b.length<=100000),D.x (.sl (rows ZB b))))=_;rw[Zr ZP,show Ky l n= [] by unfold Ky;rw[if_neg (by rw[h];decide)]];simp;omega
 have hcy:ZDX [.x (.sl [[.sl (rows ZB (Ky l n))],[.sl (rows ZB vs)]])]=some (true,.x (.sl (rows ZB (Ky l n++vs)))):=by
  show((Zb ZB (rows ZB (Ky l n))).bind λa=>(Zb ZB (rows ZB vs)).map λb=>(decide (a.length<=100000/\b.length<=100000),D.x (.sl (rows ZB (a++b)))))=_;rw[Zr ZP,Zr ZP];simp;omega
 refine ZI.mcallsX (fC 80 false ?_) (by first|decide|(simp;done)) hO (by first|rfl|exact hR);intro C0 E0;have uu:=KT @YC.eq_1 @YC.eq_2 @ZHy.eq_1 @ZHy.eq_2 @ZL3.eq_1 @ZL3.eq_2 @ZDX.eq_1 @ZDX.eq_2 (KT @ZDX.eq_3 @ZHe.eq_1 @ZHe.eq_2 hul hda hds hn htl (Ya @ZZ5 @ZAE.eq_1));refine WI.seq ?_;refine WI.regB Jc [0,1,2] ?_;refine oS ?_;refine oN ?_;refine ZA ?_;refine WI.seq ?_;refine WI.regB Jc [0,2,7] ?_;refine oS ?_;refine oC ?_;refine oS ?_;refine oN ?_;refine ZA ?_;refine WI.seq ?_;refine WI.seq ?_;refine WI.regB Jc [0,2,7,17] ?_;refine oS ?_
 iterate 2 refine oG ?_
 refine oN ?_;refine ZA ?_;refine WI.cond (b:=_) rfl rfl (λh0=> ?_) (λh0=> ?_)
 .try simp only[zB]at h0
  have hv0:vs= []:=ξQ (by simpa using h0);rw[if_pos hv0]at hres;refine WI.seq ?_;refine WI.regB Jc [6] ?_
  iterate 2 refine oS ?_
  refine oN ?_;refine ZA ?_;refine WI.ret ?_;refine JP ?_
  first|refine lfR ?_|refine ZB5 ?_|refine ZBd ?_|refine ZB7 ?_
  subst hres;exact⟨rfl,_,rfl⟩
 .try simp only[zB]at h0
  have hv0:vs≠ []:=λe=>by subst e;simp at h0
  rw[if_neg hv0]at hres;refine WI.skip ?_;refine ZA ?_;refine WI.seq ?_;refine WI.regB Jc [0,2,7,8,9] ?_
  iterate 2 refine oS ?_
  refine oC ?_;refine oS ?_
  iterate 2 refine oG ?_
  iterate 2 refine oS ?_
  refine oN ?_;refine ZA ?_;refine WI.join (λφ os=> ∃(m:Nat) (RS:J6) (V:X),φ= [(0,.ref 0 m 0 m),(2,.x (.sl (rows ZB vs))),(8,.x (.int .i64 (Zx l n)))]/\os= [.rows false 94 2 RS]/\RS.length=m/\Zx l n<m/\RS[Zx l n]? =some [.str n,V]/\(∀out,RS.set (Zx l n) [.str n,.sl (rows ZB out)]=rows ZX (l.take (Zx l n)++ [(n,out,())]++ZCM l n))/\ZDX [.x (.sl [[V],[.sl (rows ZB vs)]])]=some (true,.x (.sl (rows ZB (Ky l n++vs))))) ?_ (λφ os hJ=> ?_)
  .refine WI.seq ?_;refine WI.regB Jc [0,2,7,8,26] ?_;refine oS ?_;refine oG ?_;refine oN ?_;refine ZA ?_;refine WI.cond (b:=_) rfl rfl (λh1=> ?_) (λh1=> ?_)
   .try simp only[zB]at h1
    have hh:ZCS l n=false:=by simpa using h1
    refine WI.post ?_;refine WI.regB Jc [0,2,8] ?_
    iterate 3 refine oS ?_
    iterate 2 refine oG ?_
    refine oC ?_;refine oS ?_;refine oP ?_;refine Jf [0] ?_;refine KR ?_;refine ZA ?_
    first|exact⟨l.length+1,_,.nils,rfl,rfl,by rw[ZKF _ _ _ (by rw[Zh];exact hpl),Zh];rfl,J0,(ZNC hh).1,(ZNC hh).2,hcn hh⟩|exact⟨l.length,_,.sl (rows ZB (Ky l n)),rfl,rfl,Zh _ _,ZGx hh,(ZIk hh).1,(ZIk hh).2,hcy⟩
   .try simp only[zB]at h1
    have hh:ZCS l n=true:=by simpa using h1
    refine WI.orderA [0,2,8] ?_;refine WI.skip ?_;refine ZA ?_
    first|exact⟨l.length+1,_,.nils,rfl,rfl,by rw[ZKF _ _ _ (by rw[Zh];exact hpl),Zh];rfl,J0,(ZNC hh).1,(ZNC hh).2,hcn hh⟩|exact⟨l.length,_,.sl (rows ZB (Ky l n)),rfl,rfl,Zh _ _,ZGx hh,(ZIk hh).1,(ZIk hh).2,hcy⟩
  .obtain⟨m,RS,V,rfl,rfl,hRl,hpm,hRp,hRs,hcv⟩:=hJ;refine WI.seq ?_;refine WI.regB Jc [0,2,8,10] ?_;refine oS ?_;refine oN ?_;refine ZA ?_;refine WI.seq ?_;refine WI.seq ?_;have hcl:(Ky l n++vs).length<=100000:=by rw[Zf];omega
   generalize Ky l n++vs=W at hres hcv hcl;have uu:=ξ4 uu hRp hRl hcv;refine WI.regB Jc [0,8,10,40,41,42] ?_
   iterate 2 refine oS ?_
   refine oG ?_;refine oS ?_;refine oG ?_;refine oS ?_;refine oG ?_;refine oC ?_;refine oG ?_;refine oS ?_;refine oN ?_;refine ZA ?_;refine WI.block ?_;refine WI.pickA [0] ?_;refine WI.ownA 10 9 1 ?_;refine WI.orderA [0,8,10,40,41,42] ?_;refine WI.loop (λφ os=> ∃(j:Nat),φ= [(0,.ref 0 m 0 m),(8,.x (.int .i64 (Zx l n))),(10,.ref 1 (ZEK [] (W.take j)).length 0 (ZEK [] (W.take j)).length),(40,.x (.sl (rows ZB W))),(41,.x (.int .i64 W.length)),(42,.x (.int .i64 j))]/\os= [.rows false 94 2 RS,.rows false 9 1 (rows ZB (ZEK [] (W.take j)))]/\j<=W.length) (ZK W.length 42) ?_ (λφ os hI=> ?_)
   .exact⟨0,rfl,rfl,J0⟩
   .obtain⟨j,rfl,rfl,hj⟩:=hI;refine WI.seq ?_;refine WI.regB Jc [0,8,10,40,41,42,43] ?_;refine oG ?_;refine oN ?_;refine ZA ?_;refine WI.seq ?_;refine WI.cond (b:=_) rfl rfl (λh2=> ?_) (λh2=> ?_)
    .try simp only[zB]at h2
     refine WI.skip ?_;refine ZA ?_;refine WI.seq ?_;refine WI.block ?_;refine WI.seq ?_;refine WI.regB Jc [0,8,10,12,40,41,42] ?_
     iterate 2 refine oG ?_
     refine oS ?_;refine oN ?_;refine ZA ?_;refine WI.seq ?_;have hj4:j<W.length:=by omega
     have hsn:=ZYl [] W j hj4;have hle:=ZRI [] (W.take j);rw[JA,ξN]at hle;generalize ZEK [] (W.take j)=acc at hsn hle|-;have hta:acc.take acc.length=acc:=Jm;have hd2:decide (acc.length<=1000000)=true:=ZL J0;have hua:Zb ZB (rows ZB acc)=some acc:=Zr ZP acc;have uu:=ξ4 uu hta hd2 hua;refine WI.regB Jc [0,8,10,12,40,41,42,49] ?_
     iterate 2 refine oS ?_
     refine oC ?_;refine oG ?_;refine oN ?_;refine ZA ?_;refine WI.cond (b:=_) rfl rfl (λh3=> ?_) (λh3=> ?_)
     .try simp only[zB]at h3
      have hst:ZEK [] (W.take (j+1))=acc++ [W[j]]:=by rw[hsn,Zc8,if_neg (by simpa using h3)]
      refine WI.regB Jc [0,8,10,40,41,42] ?_
      iterate 2 refine oS ?_
      iterate 2 refine oG ?_
      refine oS ?_;refine oN ?_;refine Qs ?_;refine ZA ?_;refine WI.pickA [0,1] ?_;refine WI.regB Jc [0,8,10,40,41,42] ?_;refine oG ?_;refine oS ?_;refine oN ?_;refine ZA ?_
      first|exact⟨⟨j+1,by rw[hst,Zf];rfl,by rw[hst,ZUL],J0⟩,by simp[ZK,Ab.get,D.val,ZD];omega⟩|exact⟨⟨j+1,by rw[hst];rfl,by rw[hst],J0⟩,by simp[ZK,Ab.get,D.val,ZD];omega⟩
     .try simp only[zB]at h3
      have hst:ZEK [] (W.take (j+1))=acc:=by rw[hsn,Zc8,if_pos (by simpa using h3)]
      refine WI.skip ?_;refine Qs ?_;refine ZA ?_;refine WI.pickA [0,1] ?_;refine WI.regB Jc [0,8,10,40,41,42] ?_;refine oG ?_;refine oS ?_;refine oN ?_;refine ZA ?_
      first|exact⟨⟨j+1,by rw[hst,Zf];rfl,by rw[hst,ZUL],J0⟩,by simp[ZK,Ab.get,D.val,ZD];omega⟩|exact⟨⟨j+1,by rw[hst];rfl,by rw[hst],J0⟩,by simp[ZK,Ab.get,D.val,ZD];omega⟩
    .try simp only[zB]at h2
     refine WI.exit ?_;refine QL ?_;refine QL ?_;refine ZC3 ?_;refine ZA ?_;refine WI.seq ?_;obtain rfl:j=W.length:=by omega
     rw[Jm];refine WI.regB Jc [0] ?_
     iterate 3 refine oS ?_
     refine oG ?_;refine oS ?_;refine oG ?_;refine oN ?_;refine ZA ?_;refine WI.seq ?_;refine WI.regB Jc [6] ?_
     iterate 2 refine oS ?_
     refine oN ?_;refine ZA ?_;refine WI.ret ?_
     first|refine lfR ?_|refine ZB5 ?_|refine ZBd ?_|refine ZB7 ?_
     have hm:m=res.length:=by rw[<-hres,<-Zh ZX,<-hRs,ZJA,hRl]
     rw[hRs,hres,hm];exact⟨rfl,_,rfl⟩
theorem ZaC{l:List ZY}{n:List UInt8}{a:ZY}(h:a∈ZCM l n):a∈l:=by
 unfold ZCM at h;split at h<;>exact ZB1 h
theorem ZZ8(l:List ZY)(n:List UInt8)(vs:List (List UInt8)):(ZBI l n vs).length<=l.length+1:=by
 have:=ZGb l n;unfold ZBI ZCM;split
 .omega
 .split<;>simp<;>omega
theorem ZQM(l:List ZY)(n:List UInt8)(vs:List (List UInt8))(B C:Nat)(hb: ∀a∈l,a.2.1.length<=B)(hv:vs.length<=C): ∀a∈ZBI l n vs,a.2.1.length<=B+C:=by
 intro a ha;unfold ZBI at ha;split at ha
 .have:=hb a ha;omega
 .rcases Qc.1 ha with ha|ha
  .rcases Qc.1 ha with ha|ha
   .have:=hb a (ZB8 ha);omega
   .rw[ZBK]at ha;subst ha;have h1:=ZRI [] (Ky l n++vs);have h2:(Ky l n).length<=B:=by
     unfold Ky;split
     .rename_i h;have hp:=ZGx h;rw[show l.getD (Zx l n) ([],[],())=l[Zx l n] by simp[hp]];exact hb _ (YZ hp)
     .simp
    rw[Zf,ξN]at h1;show(ZEK [] (Ky l n++vs)).length<=B+C;omega
  .have:=hb a (ZaC ha);omega
theorem ZeA{l:List ZY}(hs:SoA l){n:List UInt8}{a:ZY}(h:a∈ZCM l n):Op.bytesLess n a.1=true:=by
 unfold ZCM at h;split at h
 .rename_i hh;have hp:=ZGx hh;have he:=ZUK l n hp hh;obtain⟨j,hj,rfl⟩:=ZMi.1 h;rw[List.getElem_drop];rw[KD]at hj;have:=ZJa.1 hs (Zx l n) (Zx l n+1+j) hp J0 J0;rwa [he]at this
 .rename_i hh;obtain⟨j,hj,rfl⟩:=ZMi.1 h;rw[List.getElem_drop];rw[KD]at hj;have hp:Zx l n<l.length:=by omega
  have hst:=ZNW l n hp;have hne:l[Zx l n].1≠n:=λe=>hh (by unfold ZCS;rw[YA hp];simpa using e)
  have h1:Op.bytesLess n l[Zx l n].1=true:=(bl_tot _ _ hne).resolve_left (by rw[hst];decide);rcases ZO7 j with h0|h0
  .subst h0;exact h1
  .exact bl_trans _ _ _ h1 (ZJa.1 hs (Zx l n) (Zx l n+j) hp J0 J0)
theorem ZdO{l:List ZY}(hs:SoA l)(n:List UInt8)(vs:List (List UInt8)):SoA (ZBI l n vs):=by
 unfold ZBI;split
 .exact hs
 .have h1: ∀a∈l.take (Zx l n),Op.bytesLess a.1 n=true:=λa ha=>by
   obtain⟨j,hj,rfl⟩:=List.mem_take_iff_getElem.1 ha;exact ZNE l n j J0
  have h2: ∀a∈ZCM l n,Op.bytesLess n a.1=true:=λa ha=>ZeA hs ha
  rw[SoA,ZVv,ZVv];refine⟨⟨hs.sublist (List.take_sublist _ _),List.pairwise_singleton _ _,λa ha b hb=> ?_⟩,?_,λa ha b hb=> ?_⟩
  .rw[ZBK]at hb;subst hb;exact h1 a ha
  .unfold ZCM;split<;>exact hs.sublist (List.drop_sublist _ _)
  .rcases Qc.1 ha with ha|ha
   .exact bl_trans _ _ _ (h1 a ha) (h2 b hb)
   .rw[ZBK]at ha;subst ha;exact h2 b hb
def YH(l:List ZY):List ZY:=l.foldl (λacc a=>ZBI acc (ZJ a.1) a.2.1) []
theorem ZBy(l:List ZY)(j:Nat)(h:j<l.length):YH (l.take (j+1))=ZBI (YH (l.take j)) (ZJ (l.getD j ([],[],())).1) (l.getD j ([],[],())).2.1:=by
 unfold YH;rw[Jk h,ZRw];simp[h]
theorem ZLX(l:List ZY): ∀j,j<=l.length->SoA (YH (l.take j))
 |0,_=>by simp[YH,SoA]
 |j+1,h=>by rw[ZBy l j J0];exact ZdO (ZLX l j J0) _ _
theorem ZF4(l:List ZY): ∀j,j<=l.length->(YH (l.take j)).length<=j
 |0,_=>by simp[YH]
 |j+1,h=>by
  rw[ZBy l j J0];have:=ZZ8 (YH (l.take j)) (ZJ (l.getD j ([],[],())).1) (l.getD j ([],[],())).2.1;have:=ZF4 l j J0;omega
theorem ZH7(l:List ZY)(hb: ∀a∈l,a.2.1.length<=400): ∀j,j<=l.length-> ∀a∈YH (l.take j),a.2.1.length<=j*400
 |0,_=>by simp[YH]
 |j+1,h=>by
  rw[ZBy l j J0];have:=ZQM (YH (l.take j)) (ZJ (l.getD j ([],[],())).1) (l.getD j ([],[],())).2.1 (j*400) 400 (ZH7 l hb j J0) (by rw[show l.getD j ([],[],())=l[j] by simp[show j<l.length by omega]];exact hb _ (YZ _));intro a ha;have:=this a ha;omega
def ZSe:J8->J7->Option (Bool×D×J7)
 | [.ref 0 n 0 n',.x (.str t),.x (.sl R)],[.rows false e 2 rs]=>(Zb ZX rs).bind λl=>(Zb ZB R).map λvs=>(decide (n=l.length/\n'=l.length/\e=94)&&decide (SoA l/\l.length<=100000/\t.length<=140737488355328/\vs.length<=50000/\ ∀a∈l,a.2.1.length<=50000),.ref 0 (ZBI l (ZJ t) vs).length 0 (ZBI l (ZJ t) vs).length,[.rows false e 2 (rows ZX (ZBI l (ZJ t) vs))])
 |_,_=>none
theorem Ze8: ∀args os r os',ZSe args os=some (true,r,os')->ZN Tryz.prog 80 args os r os':=by
 intro args os r os' h;unfold ZSe at h;split at h
 .rename_i n n' t R e rs;obtain⟨l,h1,h⟩:=Zv h;obtain⟨vs,h2,h⟩:=Zc h;simp only[ZZ,ZS,Zd]at h;obtain⟨⟨⟨rfl,rfl,rfl⟩,h3,h4,h5,h6,h7⟩,rfl,rfl⟩:=h;rw[<-Za YR h1,<-Za ZP h2];exact Zhn l t vs h3 h4 h5 h6 h7
 .cases h
def ZK4:Tabs:=Jz (ZO) 80 ZSe
theorem ZXY:SsOk Tryz.prog ZK4:=JE (ZF) (ZW 80) Ze8
theorem ZcD:(∀a,ZK4.q 80 a=none)/\(∀a o,ZK4.t 80 a o=Yx ZSe a o)/\(∀f a o,ZK4.r f a o=none)/\(∀f a o,ZK4.k f a o=none):=⟨λ_=>rfl,λ_ _=>rfl,λ_ _ _=>rfl,λ_ _ _=>rfl⟩
theorem ZdM(dn:List UInt8)(l:List ZY)(hl:l.length<=100)(ht: ∀a∈l,a.1.length<=1000000)(hb: ∀a∈l,a.2.1.length<=400):ZC Tryz.prog 41 [.agg [.x (.str dn),.x (.sl (rows ZX l))]] (.agg [.x (.str dn),.x (.sl (rows ZX (YH l)))]):=by
 refine ZI.pure (fC 41 true ?_) rfl;intro C0 E0;have uu:=Ya @ZSe.eq_1 @ZcD;have tT:=ZXY;refine nz ?_;refine rg tT [1,2] ?_;refine rg tT [1,2,3] ?_;refine rg tT [2,3,10,11,12] ?_;refine WI.ownBox 2 1 94 2 rfl rfl ?_;dsimp only[List.set_cons_succ,List.set_cons_zero,JD,ξN,List.cons_append,List.nil_append,Nat.reduceAdd,Nat.zero_add];refine WI.pickA [1,2,3] ?_;refine WI.loop (λφ os=> ∃(j:Nat),φ= [(2,.ptr 0 0),(3,.ptr 1 0),(10,.x (.sl (rows ZX l))),(11,.x (.int .i64 l.length)),(12,.x (.int .i64 j))]/\os= [.box [.x (.str []),.x .nils],.box [.x (.str dn),.ref 2 (YH (l.take j)).length 0 (YH (l.take j)).length],.rows false 94 2 (rows ZX (YH (l.take j)))]/\j<=l.length) (ZK l.length 12) ?_ (λφ os hI=> ?_)
 .exact⟨0,rfl,rfl,J0⟩
 .obtain⟨j,rfl,rfl,hj⟩:=hI;refine nz ?_;refine rg tT [2,3,10,11,12,13] ?_;refine cd (λh0=> ?_) (λh0=> ?_)
  .have hj4:j<l.length:=by omega
   have hrw:=ZOE l j hj4;have hst:=ZBy l j hj4;have hso:=ZLX l j J0;have hcl:=ZF4 l j J0;have hcv: ∀a∈YH (l.take j),a.2.1.length<=50000:=λa ha=>by have:=ZH7 l hb j J0 a ha;omega
   have hg:l.getD j ([],[],())=l[j]:=by simp[hj4]
   have hxl:=ht l[j] (YZ hj4);have hxv:=hb l[j] (YZ hj4);rw[<-hg]at hxl hxv;generalize l.getD j ([],[],())=x at hrw hst hxl hxv;generalize YH (l.take j)=acc at hst hso hcl hcv|-;have hua:Zb ZX (rows ZX acc)=some acc:=Zr YR acc;have hux:Zb ZB (rows ZB x.2.1)=some x.2.1:=Zr ZP x.2.1;have hdd:decide (SoA acc/\acc.length<=100000/\x.1.length<=140737488355328/\x.2.1.length<=50000/\ ∀a∈acc,a.2.1.length<=50000)=true:=ZL ⟨hso,J0,J0,J0,hcv⟩;have uu:=ξ5 uu hrw hua hux hdd;refine rg tT [2,3,5,10,11,12] ?_;refine rg tT [2,3,10,11,12] ?_;refine WI.pickA [0,1,2] ?_;refine rg tT [2,3,10,11,12] ?_;exact⟨⟨j+1,rfl,by rw[hst],J0⟩,by simp[ZK,Ab.get,D.val,ZD];omega⟩
  .obtain rfl:j=l.length:=by omega
   rw[Jm];refine rg tT [2] ?_;refine lf ?_
   first|rfl|exact⟨rfl,rfl⟩|trivial
def KN:J8->J5
 | [.agg [.x (.str dn),.x (.sl R)]]=>(Zb ZX R).bind λl=>some (decide (l.length<=100/\(∀a∈l,a.1.length<=1000000)/\ ∀a∈l,a.2.1.length<=400),.agg [.x (.str dn),.x (.sl (rows ZX (YH l)))])
 |_=>none
theorem ZF8: ∀args r,KN args=some (true,r)->ZC Tryz.prog 41 args r:=by
 intro args r h;unfold KN at h;split at h
 .rename_i dn R;obtain⟨l,hr0,h⟩:=Zv h;simp only[Ze,ZZ,ZS,Zd,true_and]at h;obtain⟨h1,rfl⟩:=h;rw[<-Za YR hr0];exact(ZdM dn l h1.1 h1.2.1 h1.2.2)
 .cases h
theorem ZcZ(b:Bool):ZC Tryz.prog 186 [.x (.bool b)] (.x (.int .i64 (if b=true then 1 else 0))):=by
 refine ZI.pure (fC 186 true ?_) rfl;intro C0 E0;have uu:=trivial;have tT:=(ZF:SsOk Tryz.prog ZO);refine nz ?_;refine rg tT [0] ?_;refine rg tT [3] ?_;refine cd (λh0=> ?_) (λh0=> ?_)
 .refine rg tT [2] ?_;refine lf ?_
  (clear uu;grind)
 .refine rg tT [2] ?_;refine lf ?_
  (clear uu;grind)
def ZBv:J8->J5
 | [.x (.bool b)]=>some (true,.x (.int .i64 (if b=true then 1 else 0)))
 |_=>none
theorem ZOO: ∀args r,ZBv args=some (true,r)->ZC Tryz.prog 186 args r:=by
 intro args r h;unfold ZBv at h;split at h
 .rename_i b;simp only[Ze,ZZ,ZS,Zd,true_and]at h;obtain rfl:=h;exact(ZcZ b)
 .cases h
def ZKq:Tabs:=ZT (ZT (ZO) 154 Ks) 186 ZBv
theorem ZW7:SsOk Tryz.prog ZKq:=ZH (ZH (ZF) (ZW 154) ZKi) (ZW 186) ZOO
theorem ZbJ:(∀a,ZKq.q 154 a=Ks a)/\(∀a,ZKq.q 186 a=ZBv a)/\(∀f a o,ZKq.r f a o=none)/\(∀f a o,ZKq.k f a o=none):=⟨λ_=>rfl,λ_=>rfl,λ_ _ _=>rfl,λ_ _ _=>rfl⟩
theorem ZhC(k:Int)(a b:Tx):ZC Tryz.prog 185 [.x (.int .i64 k),.x (.str a),.x (.str b)] (.tup [.x (.str (Kj k a).1),.x (.str (Kj k b).1),.x (.bool ((Kj k a).2&&(Kj k b).2))]):=by
 refine ZI.pure (fC 185 true ?_) rfl;intro C0 E0;have uu:=ξ5 @Ks.eq_1 @Ks.eq_2 @ZbJ @ZBv.eq_1 @ZBv.eq_2;have tT:=ZW7;refine nz ?_;refine rg tT [0,1,2] ?_;refine rg tT [0,2,9,10] ?_;refine rg tT [9,10,11,12] ?_;refine rg tT [6,7,8] ?_;refine lf ?_
 first|rfl|exact⟨rfl,rfl⟩|trivial
def ZLY:J8->J5
 | [.x (.int .i64 k),.x (.str a),.x (.str b)]=>some (true,.tup [.x (.str (Kj k a).1),.x (.str (Kj k b).1),.x (.bool ((Kj k a).2&&(Kj k b).2))])
 |_=>none
theorem ZcF: ∀args r,ZLY args=some (true,r)->ZC Tryz.prog 185 args r:=by
 intro args r h;unfold ZLY at h;split at h
 .rename_i k a b;simp only[Ze,ZZ,ZS,Zd,true_and]at h;obtain rfl:=h;exact(ZhC k a b)
 .cases h
def ZKX:Tabs:=ZT (ZT (ZO) 185 ZLY) 186 ZBv
theorem ZW0:SsOk Tryz.prog ZKX:=ZH (ZH (ZF) (ZW 185) ZcF) (ZW 186) ZOO
theorem ZcS:(∀a,ZKX.q 185 a=ZLY a)/\(∀a,ZKX.q 186 a=ZBv a)/\(∀f a o,ZKX.r f a o=none)/\(∀f a o,ZKX.k f a o=none):=⟨λ_=>rfl,λ_=>rfl,λ_ _ _=>rfl,λ_ _ _=>rfl⟩
theorem Zah(k:Int)(a b:Tx):ZC Tryz.prog 162 [.x (.int .i64 k),.x (.str a),.x (.str b)] (.x (.int .i64 (eqV k a b))):=by
 rcases hu:eqV k a b with u
 unfold eqV at hu;refine ZI.pure (fC 162 true ?_) rfl;intro C0 E0;have uu:=ξ5 @ZLY.eq_1 @ZLY.eq_2 @ZBv.eq_1 @ZBv.eq_2 @ZcS;have tT:=ZW0;refine nz ?_;refine rg tT [0,1,2] ?_;refine rg tT [7,8,9] ?_;refine rg tT [7,8,19] ?_;refine cd (λh0=> ?_) (λh0=> ?_)
 .refine rg tT [6] ?_;refine lf ?_
  (clear uu;grind)
 .refine rg tT [6] ?_;refine lf ?_
  (clear uu;grind)
def ZGR:J8->J5
 | [.x (.int .i64 k),.x (.str a),.x (.str b)]=>some (true,.x (.int .i64 (eqV k a b)))
 |_=>none
theorem ZWA: ∀args r,ZGR args=some (true,r)->ZC Tryz.prog 162 args r:=by
 intro args r h;unfold ZGR at h;split at h
 .rename_i k a b;simp only[Ze,ZZ,ZS,Zd,true_and]at h;obtain rfl:=h;exact(Zah k a b)
 .cases h
def smL(l:List ZY):Prop:=l.length<=100/\(∀a∈l,a.1.length<=1000000)/\ ∀a∈l,a.2.1.length<=400
instance (l:List ZY):Decidable (smL l):=inferInstanceAs (Decidable (_/\_/\_))
def ZMP(l:List ZY)(n:Tx):List Tx:=Ky (YH l) (ZJ n)
def ZIx:Tabs:=ZT (ZT (ZT (ZO) 63 YC) 41 KN) 124 ZHy
theorem ZZT:SsOk Tryz.prog ZIx:=ZH (ZH (ZH (ZF) (ZW 63) ZAu) (ZW 41) ZF8) (ZW 124) ZUr
theorem ZbE:(∀a,ZIx.q 63 a=YC a)/\(∀a,ZIx.q 41 a=KN a)/\(∀a,ZIx.q 124 a=ZHy a)/\(∀f a o,ZIx.r f a o=none)/\(∀f a o,ZIx.k f a o=none):=⟨λ_=>rfl,λ_=>rfl,λ_=>rfl,λ_ _ _=>rfl,λ_ _ _=>rfl⟩
theorem ZJ2(l:List ZY):YH (l.take l.length)=YH l:=by rw[Jm]
theorem ZhV(dn:Tx)(l:List ZY)(n:Tx)(h:smL l)(hn:n.length<=140737488355328):ZC Tryz.prog 95 [.agg [.x (.str dn),.x (.sl (rows ZX l))],.x (.str n)] (.x (.sl (rows ZB (ZMP l n)))):=by
 have hd1:decide (l.length<=100/\(∀a∈l,a.1.length<=1000000)/\ ∀a∈l,a.2.1.length<=400)=true:=ZL h;have hdn:=ZL hn;have hso:SoA (YH l):=by have:=ZLX l l.length (Zm _);rwa [ZJ2]at this
 have hcl:(YH l).length<=100:=by have:=ZF4 l l.length (Zm _);rw[ZJ2]at this;have:=h.1;omega
 have hul:Zb ZX (rows ZX l)=some l:=Zr YR l;have huc:Zb ZX (rows ZX (YH l))=some (YH l):=Zr YR _;have hds:decide (SoA (YH l)/\(YH l).length<=1000000)=true:=ZL ⟨hso,J0⟩;unfold ZMP;rcases hb:Ky (YH l) (ZJ n)with V
 refine ZI.pure (fC 95 true ?_) rfl;intro C0 E0;have uu:=KT @YC.eq_1 @YC.eq_2 @KN.eq_1 @KN.eq_2 @ZHy.eq_1 @ZHy.eq_2 hd1 hdn (ξ4 hul huc hds @ZbE);have tT:=ZZT;refine nz ?_;refine rg tT [1,2] ?_;refine rg tT [1,5] ?_;refine WI.dregB tT [5,6,7] ?_;refine Zs ?_;refine Yp ?_;refine Zs ?_;refine dQC ?_;refine dAC ?_;refine Zs ?_
 iterate 2 refine Jq ?_
 iterate 2 refine Zs ?_
 refine dN ?_;refine nz ?_;refine rg tT [5,6,19] ?_;refine cd (λh0=> ?_) (λh0=> ?_)
 .have hh:ZCS (YH l) (ZJ n)=false:=by simpa using h0
  have hb0:V= []:=by rw[<-hb];unfold Ky;rw[if_neg (by rw[hh];decide)]
  subst hb0;refine rg tT [4] ?_;refine WI.nnA ?_;refine lf ?_
  first|rfl|exact⟨rfl,rfl⟩|trivial
 .have hh:ZCS (YH l) (ZJ n)=true:=by simpa using h0
  have hrw:=(ZIk hh).1;rw[hb]at hrw;have hlt:=ZGx hh;have hd5:=ZL (show((Zx (YH l) (ZJ n):Nat):Int)<((YH l).length:Int) by omega);have uu:=JX uu hrw hd5;refine rg tT [4] ?_;refine WI.nnA ?_;refine lf ?_
  first|rfl|exact⟨rfl,rfl⟩|trivial
def ZOr:J8->J5
 | [.agg [.x (.str dn),.x (.sl R)],.x (.str n)]=>(Zb ZX R).bind λl=>some (decide (smL l/\n.length<=140737488355328),.x (.sl (rows ZB (ZMP l n))))
 |_=>none
theorem Zd2: ∀args r,ZOr args=some (true,r)->ZC Tryz.prog 95 args r:=by
 intro args r h;unfold ZOr at h;split at h
 .rename_i dn R n;obtain⟨l,hr0,h⟩:=Zv h;simp only[Ze,ZZ,ZS,Zd,true_and]at h;obtain⟨h1,rfl⟩:=h;rw[<-Za YR hr0];exact(ZhV dn l n h1.1 h1.2)
 .cases h
def ZRr(l:List ZY)(n v:Tx)(k:Int):Bool:=(ZMP l n).any λx=>decide (eqV k x v=1)
def ZKV:Tabs:=ZT (ZT (ZO) 95 ZOr) 162 ZGR
theorem ZYg:SsOk Tryz.prog ZKV:=ZH (ZH (ZF) (ZW 95) Zd2) (ZW 162) ZWA
theorem Zb0:(∀a,ZKV.q 95 a=ZOr a)/\(∀a,ZKV.q 162 a=ZGR a)/\(∀f a o,ZKV.r f a o=none)/\(∀f a o,ZKV.k f a o=none):=⟨λ_=>rfl,λ_=>rfl,λ_ _ _=>rfl,λ_ _ _=>rfl⟩
theorem ZTc(p:Tx->Bool)(l:List Tx)(j:Nat)(h:j<l.length):(l.take (j+1)).any p=((l.take j).any p||p (l.getD j [])):=by
 rw[Jk h,List.any_append];simp[h]
theorem Zcl(l:List ZY)(n:Tx)(h:smL l):(ZMP l n).length<=50000:=by
 unfold ZMP;refine ZS6 (λa ha=> ?_);have h1:=ZH7 l h.2.2 l.length (Zm _) a (by rw[ZJ2];exact ha);have:=h.1;omega
theorem Zhl(dn:Tx)(l:List ZY)(n v:Tx)(k:Int)(h:smL l)(hn:n.length<=140737488355328):ZC Tryz.prog 123 [.agg [.x (.str dn),.x (.sl (rows ZX l))],.x (.str n),.x (.str v),.x (.int .i64 k)] (.x (.bool (ZRr l n v k))):=by
 have hd1:decide (smL l/\n.length<=140737488355328)=true:=ZL ⟨h,hn⟩;have hul:Zb ZX (rows ZX l)=some l:=Zr YR l;have hgl:=Zcl l n h;unfold ZRr;rcases hg:ZMP l n with V
 rw[hg]at hgl;refine ZI.pure (fC 123 true ?_) rfl;intro C0 E0;have uu:=ξ8 @ZOr.eq_1 @ZOr.eq_2 @ZGR.eq_1 @ZGR.eq_2 hd1 hul hg @Zb0;have tT:=ZYg;refine nz ?_;refine rg tT [1,2,3,4] ?_;refine rg tT [2,3,13,14,15] ?_;refine WI.pickA [] ?_;refine WI.orderA [2,3,13,14,15] ?_;refine WI.loop (λφ os=> ∃(j:Nat),φ= [(2,.x (.str v)),(3,.x (.int .i64 k)),(13,.x (.sl (rows ZB V))),(14,.x (.int .i64 V.length)),(15,.x (.int .i64 j))]/\os= []/\j<=V.length/\(V.take j).any (λx=>decide (eqV k x v=1))=false) (ZK V.length 15) ?_ (λφ os hI=> ?_)
 .exact⟨0,rfl,rfl,J0,rfl⟩
 .obtain⟨j,rfl,rfl,hj,hno⟩:=hI;refine nz ?_;refine rg tT [2,3,13,14,15,16] ?_;refine cd (λh0=> ?_) (λh0=> ?_)
  .have hj4:j<V.length:=by omega
   have hrw:(rows ZB V)[j]? =some [X.str (V.getD j [])]:=by simp[rows,hj4,ZB]
   have hat:=ZTc (λx=>decide (eqV k x v=1)) V j hj4;have hmem:V.getD j []∈V:=by rw[show V.getD j []=V[j] by simp[hj4]];exact YZ hj4
   generalize V.getD j []=x at hrw hat hmem;have uu:=Ya uu hrw;refine rg tT [2,3,10,13,14,15] ?_;refine rg tT [2,3,13,14,15,23] ?_;refine cd (λh1=> ?_) (λh1=> ?_)
   .have hx:eqV k x v=1:=by simpa using h1
    refine rg tT [8] ?_;refine lf ?_;rw[List.any_eq_true.2 ⟨x,hmem,ZL hx⟩]
   .have hx:decide (eqV k x v=1)=false:=by simpa using h1
    refine rg tT [2,3,13,14,15] ?_;exact⟨⟨j+1,rfl,rfl,J0,by rw[hat,hno,hx];rfl⟩,by simp[ZK,Ab.get,D.val,ZD];omega⟩
  .refine rg tT [8] ?_;refine lf ?_;rw[Yi J0]at hno;rw[hno]
def ZMh:J8->J5
 | [.agg [.x (.str dn),.x (.sl R)],.x (.str n),.x (.str v),.x (.int .i64 k)]=>(Zb ZX R).bind λl=>some (decide (smL l/\n.length<=140737488355328),.x (.bool (ZRr l n v k)))
 |_=>none
theorem ZT1: ∀args r,ZMh args=some (true,r)->ZC Tryz.prog 123 args r:=by
 intro args r h;unfold ZMh at h;split at h
 .rename_i dn R n v k;obtain⟨l,hr0,h⟩:=Zv h;simp only[Ze,ZZ,ZS,Zd,true_and]at h;obtain⟨h1,rfl⟩:=h;rw[<-Za YR hr0];exact(Zhl dn l n v k h1.1 h1.2)
 .cases h
def okS(s:Tx):Bool:=decide (JG s=(s,0))
def Yy(s:Tx):List Tx:=if okS s=true then(YQ s).1.map λr=>(QT [r]).1 else []
theorem Zdz(s:Tx)(h:(YQ s).2=0):smD (YQ s).1:=by
 unfold YQ at h|-;split
 .intro r hr;cases hr
 .rename_i h1;split
  .intro r hr;cases hr
  .split
   .rename_i h2;split
    .intro r hr;cases hr
    .split
     .intro r hr;cases hr
     .exact ZGY s J0
   .intro r hr;cases hr
theorem ZOj(s:Tx)(h:(YQ s).2=0):Je (YQ s).1=0:=by
 unfold YQ at h|-;split
 .rename_i h1;rw[if_pos h1]at h;cases h
 .rename_i h1;rw[if_neg h1]at h;split
  .rfl
  .rename_i h2;rw[if_neg h2]at h;split
   .rename_i h3;rw[if_pos h3]at h;split
    .rename_i h4;rw[if_pos h4]at h;cases h
    .rename_i h4;rw[if_neg h4]at h;split
     .rename_i h5;rw[if_pos h5]at h;exact absurd h h5
     .rename_i h5;exact ZJC.1 h5
   .rename_i h3;rw[if_neg h3]at h;cases h
def ZG9:Tabs:=Jz (ZT (ZT (ZT (ZO) 96 ZBs) 121 Qi) 144 Qm) 144 (ZAE Qm)
theorem ZXX:SsOk Tryz.prog ZG9:=JE (ZH (ZH (ZH (ZF) (ZW 96) ZNL) (ZW 121) ZHo) (ZW 144) ZGk) (ZW 144) (ZDv ZGk)
theorem ZcT:(∀a,ZG9.q 96 a=ZBs a)/\(∀a,ZG9.q 121 a=Qi a)/\(∀a,ZG9.q 144 a=Qm a)/\(∀a o,ZG9.t 144 a o=Yx (ZAE Qm) a o)/\(∀f a o,ZG9.r f a o=none)/\(∀f a o,ZG9.k f a o=none):=⟨λ_=>rfl,λ_=>rfl,λ_=>rfl,λ_ _=>rfl,λ_ _ _=>rfl,λ_ _ _=>rfl⟩
theorem ZdN(s:Tx):ZC Tryz.prog 114 [.x (.str s)] (.tup [.x (.sl (rows ZB (Yy s))),.x (.bool (okS s))]):=by
 obtain⟨d,hd⟩: ∃d,(YQ s).1=d:=⟨_,rfl⟩;rcases hres:Yy s with out
 unfold Yy at hres;rw[hd]at hres;refine ZI.pure (fC 114 true ?_) rfl;intro C0 E0;have uu:=KT @ZBs.eq_1 @ZBs.eq_2 @Qi.eq_1 @Qi.eq_2 @Qm.eq_1 @Qm.eq_2 hd @ZcT @ZAE.eq_1;have tT:=ZXX;refine nz ?_;refine rg tT [0] ?_;refine rg tT [0,4,5] ?_;refine rg tT [0,24] ?_;refine cd (λh0=> ?_) (λh0=> ?_)
 .have hok:okS s=false:=by unfold okS;exact decide_eq_false (λe=>by rw[e]at h0;simp at h0)
  rw[hok]at hres;refine rg tT [2,3] ?_;refine WI.nnA ?_;refine lf ?_;subst hres;rw[hok];rfl
 .have hno:JG s=(s,0):=by
   have h1:(JG s).2=0/\(JG s).1=s:=by clear uu;grind
   exact ZEO h1.2 h1.1
  have hok:okS s=true:=ZL hno;rw[if_pos hok]at hres;have hr0:(YQ s).2=0:=by
   unfold JG at hno;split at hno
   .rename_i h;exact absurd (congrArg Prod.snd hno) h
   .rename_i h;exact ZJC.1 h
  have hsm:smD d:=by rw[<-hd];exact Zdz s hr0
  have hdl:d.length<=32:=by rw[<-hd];exact(ZD3 (ZOj s hr0)).1
  refine rg tT [6] ?_;refine rg tT [6,8] ?_;refine rg tT [8,30,31,32] ?_;refine WI.ownA 8 9 1 ?_;refine WI.loop (λφ os=> ∃(j:Nat),φ= [(8,.ref 0 ((d.take j).map λr=>(QT [r]).1).length 0 ((d.take j).map λr=>(QT [r]).1).length),(30,.x (.sl (rows JU d))),(31,.x (.int .i64 d.length)),(32,.x (.int .i64 j))]/\os= [.rows false 9 1 (rows ZB ((d.take j).map λr=>(QT [r]).1))]/\j<=d.length) (ZK d.length 32) ?_ (λφ os hI=> ?_)
  .exact⟨0,rfl,rfl,J0⟩
  .obtain⟨j,rfl,rfl,hj⟩:=hI;refine nz ?_;refine rg tT [8,30,31,32,33] ?_;refine cd (λh1=> ?_) (λh1=> ?_)
   .have hj4:j<d.length:=by omega
    have hrw:=ZEc d j hj4;have htk:(d.take (j+1)).map (λr=>(QT [r]).1)=(d.take j).map (λr=>(QT [r]).1)++ [(QT [d.getD j []]).1]:=by rw[Jk hj4,Jt];simp[hj4]
    have hs1:decide (smD [d.getD j []])=true:=ZL (λr hr p hp=>by
     rw[ZBK]at hr;subst hr;exact hsm _ (by rw[show d.getD j []=d[j] by simp[hj4]];exact YZ hj4) p hp)
    have hlen2:((d.take j).map λr=>(QT [r]).1).length<=1000000:=by rw[YX,JA];omega
    generalize d.getD j []=r at hrw htk hs1;have hur:Zb JU [[X.sl (rows Zo r)]]=some [r]:=Zr ZD5 [r];have uu:=ξ4 uu hrw hs1 hur;refine rg tT [8,10,30,31,32] ?_;refine rg tT [8,11,30,31,32] ?_;refine rg tT [8,30,31,32] ?_;refine WI.pickA [0] ?_;refine rg tT [8,30,31,32] ?_;exact⟨⟨j+1,by rw[htk,Zf];rfl,by rw[htk];simp[rows,ZB],J0⟩,by simp[ZK,Ab.get,D.val,ZD];omega⟩
   .obtain rfl:j=d.length:=by omega
    rw[Jm,hres];refine rg tT [2,3] ?_;refine WI.nnA ?_;refine lf ?_;rw[hok]
def ZFa:J8->J5
 | [.x (.str s)]=>some (true,.tup [.x (.sl (rows ZB (Yy s))),.x (.bool (okS s))])
 |_=>none
theorem ZXL: ∀args r,ZFa args=some (true,r)->ZC Tryz.prog 114 args r:=by
 intro args r h;unfold ZFa at h;split at h
 .rename_i s;simp only[Ze,ZZ,ZS,Zd,true_and]at h;obtain rfl:=h;exact(ZdN s)
 .cases h
theorem ZRo{s:Tx}(h:okS s=true):(YQ s).2=0:=by
 have hno:JG s=(s,0):=of_decide_eq_true h;unfold JG at hno;split at hno
 .rename_i h;exact absurd (congrArg Prod.snd hno) h
 .rename_i h;exact ZJC.1 h
theorem Zbq(d:Dn):(QT d).1.length<=4096:=by
 unfold QT;split
 .simp
 .split
  .simp
  .rename_i h;simpa using h
theorem ZKv(s:Tx):(Yy s).length<=32/\ ∀x∈Yy s,x.length<=4096:=by
 unfold Yy;split
 .rename_i h;refine⟨by rw[YX];exact(ZD3 (ZOj s (ZRo h))).1,λx hx=> ?_⟩;obtain⟨r,_,rfl⟩:=YO.1 hx;exact Zbq _
 .simp
def ZOB:Tabs:=ZT (ZO) 77 ZAU
theorem ZZa:SsOk Tryz.prog ZOB:=ZH (ZF) (ZW 77) ZGc
theorem ZcW:(∀a,ZOB.q 77 a=ZAU a)/\(∀f a o,ZOB.r f a o=none)/\(∀f a o,ZOB.k f a o=none):=⟨λ_=>rfl,λ_ _ _=>rfl,λ_ _ _=>rfl⟩
theorem Zgg(l:List Tx)(hl:l.length<=32)(hb: ∀x∈l,x.length<=4096)(h0:l≠ []):ZC Tryz.prog 76 [.x (.sl (rows ZB l))] (.x (.str (QE 44 (l.drop 1)))):=by
 have hpos:0<l.length:=ZPF.2 h0;have hjl:=ZE0 44 4096 (l.drop 1) (λx hx=>hb x (ZB1 hx));rw[KD]at hjl;have hd1:decide ((Lib.join (l.drop 1) [44]).length<=140737488355328/\(l.drop 1).length<=140737488355328)=true:=ZL ⟨by rw[ZDb];omega,by rw[KD];omega⟩;have hj:Lib.join (l.drop 1) [44]=QE 44 (l.drop 1):=ZDb 44 _;refine ZI.pure (fC 76 true ?_) rfl;intro C0 E0;have uu:=ξ5 @ZAU.eq_1 @ZAU.eq_2 hd1 hj @ZcW;have tT:=ZZa;refine nz ?_;refine rg tT [0] ?_;refine rg tT [2] ?_;refine lf ?_
 first|rfl|exact⟨rfl,rfl⟩|trivial
theorem Zeq(l:List Tx)(h0:l≠ [])(hl:l.length<=32):ZC Tryz.prog 128 [.x (.sl (rows ZB l))] (.x (.str (l.headD []))):=by
 obtain⟨x,l,rfl⟩:=List.exists_cons_of_ne_nil h0;have hrw:(rows ZB (x::l))[0]? =some [X.str x]:=rfl;refine ZI.pure (fC 128 true ?_) rfl;intro C0 E0;have uu:=hrw;have tT:=(ZF:SsOk Tryz.prog ZO);refine nz ?_;refine rg tT [0] ?_;refine rg tT [2] ?_;refine lf ?_
 first|rfl|exact⟨rfl,rfl⟩|trivial
def ZHT:J8->J5
 | [.x (.sl R)]=>(Zb ZB R).bind λl=>some (decide (l.length<=32/\(∀x∈l,x.length<=4096)/\l≠ []),.x (.str (QE 44 (l.drop 1))))
 |_=>none
theorem Zbt: ∀args r,ZHT args=some (true,r)->ZC Tryz.prog 76 args r:=by
 intro args r h;unfold ZHT at h;split at h
 .rename_i R;obtain⟨l,hr0,h⟩:=Zv h;simp only[Ze,ZZ,ZS,Zd,true_and]at h;obtain⟨h1,rfl⟩:=h;rw[<-Za ZP hr0];exact(Zgg l h1.1 h1.2.1 h1.2.2)
 .cases h
def ZFQ:J8->J5
 | [.x (.sl R)]=>(Zb ZB R).bind λl=>some (decide (l≠ []/\l.length<=32),.x (.str (l.headD [])))
 |_=>none
theorem ZYo: ∀args r,ZFQ args=some (true,r)->ZC Tryz.prog 128 args r:=by
 intro args r h;unfold ZFQ at h;split at h
 .rename_i R;obtain⟨l,hr0,h⟩:=Zv h;simp only[Ze,ZZ,ZS,Zd,true_and]at h;obtain⟨h1,rfl⟩:=h;rw[<-Za ZP hr0];exact(Zeq l h1.1 h1.2)
 .cases h
def ZIG:Tabs:=ZT (ZT (ZT (ZO) 114 ZFa) 76 ZHT) 128 ZFQ
theorem ZQX:SsOk Tryz.prog ZIG:=ZH (ZH (ZH (ZF) (ZW 114) ZXL) (ZW 76) Zbt) (ZW 128) ZYo
theorem ZRe:(∀a,ZIG.q 114 a=ZFa a)/\(∀a,ZIG.q 76 a=ZHT a)/\(∀a,ZIG.q 128 a=ZFQ a)/\(∀f a o,ZIG.r f a o=none)/\(∀f a o,ZIG.k f a o=none):=⟨λ_=>rfl,λ_=>rfl,λ_=>rfl,λ_ _ _=>rfl,λ_ _ _=>rfl⟩
def Zz(s:Tx):Tx:=QE 44 ((Yy s).drop 1)
def YV(s:Tx):Tx:=(Yy s).headD []
def QF(s:Tx):Bool:=decide (Yy s≠ [])
theorem Zhc(s:Tx):ZC Tryz.prog 75 [.x (.str s),.fn 76 []] (.tup [.x (.str (Zz s)),.x (.bool (QF s))]):=by
 obtain⟨hl,hb⟩:=ZKv s;unfold Zz QF;generalize hp:Yy s=l at hl hb|-;have hul:Zb ZB (rows ZB l)=some l:=Zr ZP l;refine ZI.pure (fC 75 true ?_) rfl;intro C0 E0;have uu:=KT @ZFa.eq_1 @ZFa.eq_2 @ZHT.eq_1 @ZHT.eq_2 hul hp @ZRe @ZFQ.eq_1 @ZFQ.eq_2;have tT:=ZQX;refine nz ?_;refine rg tT [0,1] ?_;refine rg tT [1,6] ?_;refine rg tT [1,6,15] ?_;refine cd (λh0=> ?_) (λh0=> ?_)
 .obtain rfl:l= []:=ξQ (by simpa using h0);refine rg tT [4,5] ?_;refine lf ?_
  first|rfl|exact⟨rfl,rfl⟩|trivial
 .have h0:l≠ []:=λe=>by subst e;simp at h0
  have hd1:decide (l.length<=32/\(∀x∈l,x.length<=4096)/\l≠ [])=true:=ZL ⟨hl,hb,h0⟩;have uu:=Ya uu hd1;refine rg tT [4,5] ?_;refine lf ?_;rw[ZL h0]
theorem ZhW(s:Tx):ZC Tryz.prog 75 [.x (.str s),.fn 128 []] (.tup [.x (.str (YV s)),.x (.bool (QF s))]):=by
 obtain⟨hl,hb⟩:=ZKv s;unfold YV QF;generalize hp:Yy s=l at hl hb|-;have hul:Zb ZB (rows ZB l)=some l:=Zr ZP l;refine ZI.pure (fC 75 true ?_) rfl;intro C0 E0;have uu:=KT @ZFa.eq_1 @ZFa.eq_2 @ZFQ.eq_1 @ZFQ.eq_2 hul hp @ZRe @ZHT.eq_1 @ZHT.eq_2;have tT:=ZQX;refine nz ?_;refine rg tT [0,1] ?_;refine rg tT [1,6] ?_;refine rg tT [1,6,15] ?_;refine cd (λh0=> ?_) (λh0=> ?_)
 .obtain rfl:l= []:=ξQ (by simpa using h0);refine rg tT [4,5] ?_;refine lf ?_
  first|rfl|exact⟨rfl,rfl⟩|trivial
 .have h0:l≠ []:=λe=>by subst e;simp at h0
  have hd1:decide (l≠ []/\l.length<=32)=true:=ZL ⟨h0,hl⟩;have uu:=Ya uu hd1;refine rg tT [4,5] ?_;refine lf ?_;rw[ZL h0]
def ZOi:J8->J5
 | [.x (.str s),.fn 76 []]=>some (true,.tup [.x (.str (Zz s)),.x (.bool (QF s))])
 |_=>none
theorem ZfW: ∀args r,ZOi args=some (true,r)->ZC Tryz.prog 75 args r:=by
 intro args r h;unfold ZOi at h;split at h
 .rename_i s;simp only[Ze,ZZ,ZS,Zd,true_and]at h;obtain rfl:=h;exact(Zhc s)
 .cases h
def ZPO:J8->J5
 | [.x (.str s),.fn 128 []]=>some (true,.tup [.x (.str (YV s)),.x (.bool (QF s))])
 |_=>none
theorem Ze1: ∀args r,ZPO args=some (true,r)->ZC Tryz.prog 75 args r:=by
 intro args r h;unfold ZPO at h;split at h
 .rename_i s;simp only[Ze,ZZ,ZS,Zd,true_and]at h;obtain rfl:=h;exact(ZhW s)
 .cases h
def ZNz:Tabs:=ZT (ZO) 75 ZOi
theorem ZXI:SsOk Tryz.prog ZNz:=ZH (ZF) (ZW 75) ZfW
theorem ZZ4:(∀a,ZNz.q 75 a=ZOi a)/\(∀f a o,ZNz.r f a o=none)/\(∀f a o,ZNz.k f a o=none):=⟨λ_=>rfl,λ_ _ _=>rfl,λ_ _ _=>rfl⟩
def ZNw:Tabs:=ZT (ZO) 75 ZPO
theorem ZZm:SsOk Tryz.prog ZNw:=ZH (ZF) (ZW 75) Ze1
theorem ZbV:(∀a,ZNw.q 75 a=ZPO a)/\(∀f a o,ZNw.r f a o=none)/\(∀f a o,ZNw.k f a o=none):=⟨λ_=>rfl,λ_ _ _=>rfl,λ_ _ _=>rfl⟩
theorem Zcq(s:Tx):ZC Tryz.prog 39 [.x (.str s)] (.tup [.x (.str (Zz s)),.x (.bool (QF s))]):=by
 refine ZI.pure (fC 39 true ?_) rfl;intro C0 E0;have uu:=JX @ZOi.eq_1 @ZOi.eq_2 @ZZ4;have tT:=ZXI;refine nz ?_;refine rg tT [0] ?_;refine rg tT [2,3] ?_;refine lf ?_
 first|rfl|exact⟨rfl,rfl⟩|trivial
theorem Zfm(s:Tx):ZC Tryz.prog 81 [.x (.str s)] (.tup [.x (.str (YV s)),.x (.bool (QF s))]):=by
 refine ZI.pure (fC 81 true ?_) rfl;intro C0 E0;have uu:=JX @ZPO.eq_1 @ZPO.eq_2 @ZbV;have tT:=ZZm;refine nz ?_;refine rg tT [0] ?_;refine rg tT [2,3] ?_;refine lf ?_
 first|rfl|exact⟨rfl,rfl⟩|trivial
def ZC1:J8->J5
 | [.x (.str s)]=>some (true,.tup [.x (.str (Zz s)),.x (.bool (QF s))])
 |_=>none
theorem ZNx: ∀args r,ZC1 args=some (true,r)->ZC Tryz.prog 39 args r:=by
 intro args r h;unfold ZC1 at h;split at h
 .rename_i s;simp only[Ze,ZZ,ZS,Zd,true_and]at h;obtain rfl:=h;exact(Zcq s)
 .cases h
def ZEA:J8->J5
 | [.x (.str s)]=>some (true,.tup [.x (.str (YV s)),.x (.bool (QF s))])
 |_=>none
theorem ZMx: ∀args r,ZEA args=some (true,r)->ZC Tryz.prog 81 args r:=by
 intro args r h;unfold ZEA at h;split at h
 .rename_i s;simp only[Ze,ZZ,ZS,Zd,true_and]at h;obtain rfl:=h;exact(Zfm s)
 .cases h
theorem Zg8(b:Bool)(c:Int):ZC Tryz.prog 120 [.x (.bool b),.x (.int .i64 c)] (.x (.int .i64 (if b=true then c else 0))):=by
 refine ZI.pure (fC 120 true ?_) rfl;intro C0 E0;have uu:=trivial;have tT:=(ZF:SsOk Tryz.prog ZO);refine nz ?_;refine rg tT [0,1] ?_;refine rg tT [1,5] ?_;refine cd (λh0=> ?_) (λh0=> ?_)
 .refine rg tT [4] ?_;refine lf ?_
  (clear uu;grind)
 .refine rg tT [4] ?_;refine lf ?_
  (clear uu;grind)
def QW:J8->J5
 | [.x (.bool b),.x (.int .i64 c)]=>some (true,.x (.int .i64 (if b=true then c else 0)))
 |_=>none
theorem ZMU: ∀args r,QW args=some (true,r)->ZC Tryz.prog 120 args r:=by
 intro args r h;unfold QW at h;split at h
 .rename_i b c;simp only[Ze,ZZ,ZS,Zd,true_and]at h;obtain rfl:=h;exact(Zg8 b c)
 .cases h
def ZBN(k:Int)(v:Tx):Tx:=(Kj k v).1
def ZBh(k:Int)(l:List Tx):List (Tx×Int):=l.map λv=>(ZBN k v,(1:Int))
def twV(k:Int)(l:List Tx):Bool:= !decide (l.map (ZBN k)).Nodup
theorem ZJw(k:Int): ∀(l:List Tx) (x:Tx),ZG (ZBh k l) x=if x∈l.map (ZBN k)then some 1 else none
 | [],x=>by simp[ZBh,ZG]
 |v::l,x=>by
  have ih:=ZJw k l x;by_cases h:x=ZBN k v
  .simp[ZBh,ZG,h]
  .have e:(x∈(v::l).map (ZBN k))=(x∈l.map (ZBN k)):=by simp[h]
   have e2:ZG (ZBh k (v::l)) x=ZG (ZBh k l) x:=by simp[ZBh,ZG,h]
   rw[e2,ih];simp only[e]
theorem ZXd(k:Int)(l:List Tx)(x:Tx):JZ (Yg KU kcI (ZBh k l)) [X.str x]=if x∈l.map (ZBN k)then some [D.x (X.int .i64 1)]else none:=by
 rw[ZEp KU kcI hkS (ZBh k l) x,ZJw];split<;>rfl
theorem ZWw(k:Int)(l:List Tx)(v:Tx)(h:ZBN k v∉l.map (ZBN k)):Yb (Yg KU kcI (ZBh k l)) [X.str (ZBN k v)] [D.x (X.int .i64 1)]=Yg KU kcI (ZBh k (l++ [v])):=by
 have e:=ZDd KU kcI hkS (ZBh k l) (ZBN k v) 1;rw[ZCb (by rw[ZJw,if_neg h])]at e;have e2:ZBh k (l++ [v])=ZBh k l++ [(ZBN k v,1)]:=by simp[ZBh]
 rw[e2];exact e
theorem ZAi(l:List Tx)(j:Nat)(h:j<l.length):(rows ZB l)[j]? =some [X.str (l.getD j [])]:=by
 simp[rows,h,ZB]
theorem Zff(k:Int)(l:List Tx)(j:Nat)(h:j<l.length)(hin:ZBN k (l.getD j [])∈(l.take j).map (ZBN k)):twV k l=true:=by
 unfold twV;rw[ZHz,decide_eq_false_iff_not];intro hn;have e:l=l.take j++l.getD j []::l.drop (j+1):=by
  have:=ZDl j l;rw[ZFj h]at this;rw[show l.getD j []=l[j] by simp[h]];exact this.symm
 rw[e,Jt,YL]at hn;have:=(ZGy.1 hn).2.2 _ hin _ (ZDB);exact this rfl
def ZNl:Tabs:=ZT (ZO) 154 Ks
theorem ZXK:SsOk Tryz.prog ZNl:=ZH (ZF) (ZW 154) ZKi
theorem ZbQ:(∀a,ZNl.q 154 a=Ks a)/\(∀f a o,ZNl.r f a o=none)/\(∀f a o,ZNl.k f a o=none):=⟨λ_=>rfl,λ_ _ _=>rfl,λ_ _ _=>rfl⟩
theorem Ze0(k:Int)(l:List Tx)(hl:l.length<=1000000):ZC Tryz.prog 156 [.x (.int .i64 k),.x (.sl (rows ZB l))] (.x (.bool (twV k l))):=by
 refine ZI.pure (fC 156 true ?_) rfl;intro C0 E0;have uu:=JX @Ks.eq_1 @Ks.eq_2 @ZbQ;have tT:=ZXK;refine nz ?_;refine rg tT [0,1] ?_;refine rg tT [0,1,5] ?_;refine rg tT [0,5,11,12,13] ?_;refine WI.loop (λφ os=> ∃(j:Nat),φ= [(0,.x (.int .i64 k)),(5,.mref 0),(11,.x (.sl (rows ZB l))),(12,.x (.int .i64 l.length)),(13,.x (.int .i64 j))]/\os= [.mpo .str false (Yg KU kcI (ZBh k (l.take j)))]/\j<=l.length/\((l.take j).map (ZBN k)).Nodup) (ZK l.length 13) ?_ (λφ os hI=> ?_)
 .exact⟨0,rfl,rfl,J0,J1⟩
 .obtain⟨j,rfl,rfl,hj,hnd⟩:=hI;refine nz ?_;refine rg tT [0,5,11,12,13,14] ?_;refine cd (λh0=> ?_) (λh0=> ?_)
  .have hj4:j<l.length:=by omega
   have hrw:=ZAi l j hj4;have hgt:=ZXd k (l.take j) (ZBN k (l.getD j []));have htk:l.take (j+1)=l.take j++ [l.getD j []]:=by rw[Jk hj4];simp[hj4]
   have hnk:(Kj k (l.getD j [])).1=ZBN k (l.getD j []):=rfl;have uu:=JX uu hrw hnk;refine rg tT [0,5,7,11,12,13] ?_;refine rg tT [0,5,8,11,12,13] ?_;by_cases hin:ZBN k (l.getD j [])∈(l.take j).map (ZBN k)
   .rw[if_pos hin]at hgt;have uu:=Ya uu hgt;refine rg tT [0,5,8,11,12,13,26] ?_;refine ct (λh1=> ?_) (λh1=> ?_)
    .refine rg tT [4] ?_;refine lf ?_;rw[Zff k l j hj4 hin]
    .simp at h1
   .rw[if_neg hin]at hgt;have hset:=ZWw k (l.take j) (l.getD j []) hin;have uu:=JX uu hgt hset;refine rg tT [0,5,8,11,12,13,26] ?_;refine ce (λh1=> ?_) (λh1=> ?_)
    .simp at h1
    .refine WI.post ?_;refine WI.regB tT [0,5,11,12,13] ?_
     iterate 2 refine oS ?_
     iterate 3 refine oG ?_
     refine oP ?_;refine Jf [0] ?_ (ho:=by simp (disch:=decide) only[zV,zO,Ob.mpb,frzL,ZA6,ZCf,onF,Ob.onI,mpP,Jb,Yf,Qg,D.vw,vwL,D.on,D.inP,Yo,Zn,D.ren,Zu,Ye,YS,Ob.mp,Ob.ren,D.nn,ZDn,Nat.reduceBEq,Nat.reduceEqDiff,Nat.reduceAdd,↓reduceIte,ZEj,ZAM];rfl);refine KR ?_;refine nz ?_;have hnd2:((l.take (j+1)).map (ZBN k)).Nodup:=by
      rw[htk,Jt,ZGy];exact⟨hnd,J1,λa ha b hb=>by simp only[YL,ZAD,ZBK]at hb;subst hb;rintro rfl;exact hin ha⟩
     refine rg tT [0,5,11,12,13] ?_;exact⟨⟨j+1,rfl,by rw[htk],J0,hnd2⟩,by simp[ZK,Ab.get,D.val,ZD];omega⟩
  .refine rg tT [4] ?_;refine lf ?_;rw[Yi J0]at hnd;unfold twV;rw[ZL hnd];rfl
def ZFL:J8->J5
 | [.x (.int .i64 k),.x (.sl R)]=>(Zb ZB R).bind λl=>some (decide (l.length<=1000000),.x (.bool (twV k l)))
 |_=>none
theorem ZYc: ∀args r,ZFL args=some (true,r)->ZC Tryz.prog 156 args r:=by
 intro args r h;unfold ZFL at h;split at h
 .rename_i k R;obtain⟨l,hr0,h⟩:=Zv h;simp only[Ze,ZZ,ZS,Zd,true_and]at h;obtain⟨h1,rfl⟩:=h;rw[<-Za ZP hr0];exact(Ze0 k l h1)
 .cases h
def atD(a:ZY):D:= .agg [.x (.str a.1),.x (.sl (rows ZB a.2.1))]
def w1(t:Zl)(_:ZY):Int:=if t.1= []then 17 else 0
def w2(_:Zl)(a:ZY):Int:=if a.2.1.length=0 then 19 else 0
def w3(t:Zl)(a:ZY):Int:=if a.2.1.all (λv=>(Kj t.2.1 v).2)=true then 0 else 21
def w5(t:Zl)(a:ZY):Int:=if t.2.2.1=true/\1<a.2.1.length then 19 else 0
def ZKd:Tabs:=ZT (ZT (ZO) 120 QW) 154 Ks
theorem ZHV:SsOk Tryz.prog ZKd:=ZH (ZH (ZF) (ZW 120) ZMU) (ZW 154) ZKi
theorem ZJ0:(∀a,ZKd.q 120 a=QW a)/\(∀a,ZKd.q 154 a=Ks a)/\(∀f a o,ZKd.r f a o=none)/\(∀f a o,ZKd.k f a o=none):=⟨λ_=>rfl,λ_=>rfl,λ_ _ _=>rfl,λ_ _ _=>rfl⟩
theorem Zii(t:Zl)(a:ZY):ZC Tryz.prog 151 [tyD t,atD a] (.x (.int .i64 (w1 t a))):=by
 unfold w1 tyD atD;refine ZI.pure (fC 151 true ?_) rfl;intro C0 E0;have uu:=ξ5 @QW.eq_1 @QW.eq_2 @ZJ0 @Ks.eq_1 @Ks.eq_2;have tT:=ZHV;refine nz ?_;refine rg tT [2] ?_;refine rg tT [4] ?_;refine lf ?_
 (clear uu;grind)
theorem ZiP(t:Zl)(a:ZY):ZC Tryz.prog 152 [tyD t,atD a] (.x (.int .i64 (w2 t a))):=by
 unfold w2 tyD atD;refine ZI.pure (fC 152 true ?_) rfl;intro C0 E0;have uu:=ξ5 @QW.eq_1 @QW.eq_2 @ZJ0 @Ks.eq_1 @Ks.eq_2;have tT:=ZHV;refine nz ?_;refine rg tT [3] ?_;refine rg tT [4] ?_;refine lf ?_
 (clear uu;grind)
theorem ZiT(t:Zl)(a:ZY)(hl:a.2.1.length<=1000000):ZC Tryz.prog 153 [tyD t,atD a] (.x (.int .i64 (w3 t a))):=by
 unfold w3 tyD atD;obtain⟨n,l,u⟩:=a;simp only at hl|-;refine ZI.pure (fC 153 true ?_) rfl;intro C0 E0;have uu:=ξ5 @Ks.eq_1 @Ks.eq_2 @ZJ0 @QW.eq_1 @QW.eq_2;have tT:=ZHV;refine nz ?_;refine rg tT [2,3] ?_;refine rg tT [2,10,11,12] ?_;refine WI.pickA [0] ?_;refine WI.orderA [2,10,11,12] ?_;refine WI.loop (λφ os=> ∃(j:Nat),φ= [(2,.ptr 0 0),(10,.x (.sl (rows ZB l))),(11,.x (.int .i64 l.length)),(12,.x (.int .i64 j))]/\os= [.box [.x (.str t.1),.x (.int .i64 t.2.1),.x (.bool t.2.2.1)]]/\j<=l.length/\(l.take j).all (λv=>(Kj t.2.1 v).2)=true) (ZK l.length 12) ?_ (λφ os hI=> ?_)
 .exact⟨0,rfl,rfl,J0,rfl⟩
 .obtain⟨j,rfl,rfl,hj,hall⟩:=hI;refine nz ?_;refine rg tT [2,10,11,12,13] ?_;refine cd (λh0=> ?_) (λh0=> ?_)
  .have hj4:j<l.length:=by omega
   have hrw:=ZAi l j hj4;have hgj:l[j]=l.getD j []:=by simp[hj4]
   have hal:=JV (λv=>(Kj t.2.1 v).2) l j hj4;rw[hgj]at hal;have uu:=Ya uu hrw;refine rg tT [2,6,10,11,12] ?_;refine rg tT [2,8,10,11,12] ?_;refine rg tT [2,10,11,12,24] ?_;refine cd (λh1=> ?_) (λh1=> ?_)
   .refine rg tT [4] ?_;refine lf ?_;rw[if_neg (by rw[YB (λv=>(Kj t.2.1 v).2) l j hj4 (by rw[hgj];simpa using h1)];decide)]
   .have hall2:(l.take (j+1)).all (λv=>(Kj t.2.1 v).2)=true:=by rw[hal,hall];simpa using h1
    refine rg tT [2,10,11,12] ?_;exact⟨⟨j+1,rfl,rfl,J0,hall2⟩,by simp[ZK,Ab.get,D.val,ZD];omega⟩
  .refine rg tT [4] ?_;refine lf ?_;rw[Yi J0]at hall;rw[if_pos hall]
theorem ZiO(t:Zl)(a:ZY):ZC Tryz.prog 157 [tyD t,atD a] (.x (.int .i64 (w5 t a))):=by
 unfold w5 tyD atD;refine ZI.pure (fC 157 true ?_) rfl;intro C0 E0;have uu:=ξ5 @QW.eq_1 @QW.eq_2 @ZJ0 @Ks.eq_1 @Ks.eq_2;have tT:=ZHV;refine nz ?_;refine rg tT [2,3] ?_;refine rg tT [4] ?_;refine lf ?_
 (clear uu;grind)
end Go.Proofs.YtiogclkbccdefaaGreatDoor
end
