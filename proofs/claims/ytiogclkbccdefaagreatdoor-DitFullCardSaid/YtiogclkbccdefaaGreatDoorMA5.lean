import Derived.Test.YtiogclkbccdefaaGreatDoorMA4
import Derived.Test.YtiogclkbccdefaaGreatDoorLA6
set_option linter.unusedSimpArgs false
set_option linter.unusedVariables false
set_option maxRecDepth 100000
section
namespace Go.Proofs.YtiogclkbccdefaaGreatDoor
open Go.RowKit Go.Bo Go.Ab
def ZGa(r0:D)(P1 P2:List Pr)(Y:List Ob)(r:D)(os':List Ob):Prop:=r=r0∧ ∃Z,os'=KJ P1 P2 (Y++Z)∧Z.all Ob.nof=true
theorem ZZN{Y W Z:List Ob}{e:Ob}(hZ:Z=Y++e::W)(X:List Ob):Z++X=Y++e::(W++X):=by rw[hZ,Yk,QC]
set_option maxHeartbeats 4000000 in
theorem ZYK(L:List (Tx×Zg))(M:List (Tx×Zs))(Y:List Ob)(dn:Tx)(l:List ZU)(h:smL l):ZG Tryz.prog 79 [.ptr 0 0,.agg [.x (.str dn),.x (.sl (rows ZV l))]] (KJ (JK L) (JC M) Y) (ZGa (.x (.bool (ZNK L dn l))) (JK L) (JC M) Y):=by
 obtain⟨d,hd⟩: ∃d,(Yp (YN dn)).1=d:=⟨_,rfl⟩;rcases hres:ZNK L dn l with v
 unfold ZNK at hres;rw[hd]at hres;have hul:ZY ZV (rows ZV l)=some l:=Zj YJ l;have hg0:=ZEf Y;have hg1:=ZcR Y;have hg2:=ZeE Y;have hL1: ∀m:Nat,decide (1<m+1+1+1+1)=true:=fun m=>Zc (by omega)
 have hL2: ∀m:Nat,decide (2<m+1+1+1+1)=true:=fun m=>Zc (by omega)
 have hL3: ∀m:Nat,decide (3<m+1+1+1+1)=true:=fun m=>Zc (by omega)
 have hu1:=ZD8 L;have hu2:=ZEE M;have hmb: ∀r∈d,KH r=true:=fun r hr=>Za9 (s:=YN dn) (by rw[hd];exact hr)
 refine fC 79 true ?_;intro C0 E0;have uu:=Km @ZDH.eq_1 @ZDH.eq_2 @QB.eq_1 @QB.eq_2 @ZK6.eq_1 @ZK6.eq_2 @ZEO.eq_1 @ZEO.eq_2 (Km hul hd @ZBm @ZBa @ZCH @ZCP @Qd @Ql (Km hg0 hg1 hg2 hL1 hL2 hL3 hu1 hu2 @ZY3));have tT:=ZVV;refine nz ?_;refine rg tT [0,3] ?_;refine rg tT [0,3,5,6] ?_;refine rg tT [0,3,6,7] ?_;refine rg tT [0,3,7,30] ?_;refine cd (fun h0=> ?_) (fun h0=> ?_)
 ·have hq: ¬(ZAm dn=true∧d≠ []):=by
   rintro⟨e1,e2⟩;have:=ZMh.2 e2;rw[e1]at h0;clear uu hres;grind
  have hv:v=false:=by
   rw[←hres];rcases Classical.em (ZAm dn=true)with e1|e1
   ·have e2:d= []:=ZQo fun e=>hq ⟨e1,e⟩
    rw[e1,e2];rfl
   ·rw[ZS3]at e1;rw[e1];rfl
  subst hv;refine rg tT [4] ?_;refine lf ?_;exact⟨rfl,_,rfl,rfl⟩
 ·have hv:ZAm dn=true∧d≠ []:=by
   constructor
   ·clear uu hres;grind
   ·intro e;subst e;clear uu hres;grind
  obtain⟨r,d2,rfl⟩:=List.exists_cons_of_ne_nil hv.2;rw[hv.1,Zc hv.2,ZCp,ZCp,List.headD_cons]at hres;obtain⟨hr8,hr1,hpb⟩:=ZFL (hmb r ZDn);refine rg tT [0,3,33,34,35] ?_;refine WI.loop (fun φ os=> ∃(j:Nat) (W:List Ob),φ= [(0,.ptr 0 0),(3,.ptr (Y.length+1+1+1+1) 0),(33,.x (.sl (rows YE r))),(34,.x (.int .i64 r.length)),(35,.x (.int .i64 j))]∧os=KJ (JK L) (JC M) (Y++ .box [.x (.str dn),.x (.sl (rows ZV l))]::W)∧W.all Ob.nof=true∧j≤r.length∧(r.take j).all (ZGu L l)=true) (ZX r.length 35) ?_ (fun φ os hI=> ?_)
  ·exact⟨0,[],rfl,rfl,rfl,by omega,rfl⟩
  ·obtain⟨j,W,rfl,rfl,hW,hj,hall⟩:=hI;obtain⟨Z,hZ⟩: ∃Z,Z=Y++ .box [.x (.str dn),.x (.sl (rows ZV l))]::W:=⟨_,rfl⟩;have hzE: ∀t:List Ob,(Z++t)[Y.length]? =some (.box [.x (.str dn),.x (.sl (rows ZV l))]):=fun t=>by rw[hZ,Yk];exact ZEf Y _ _
   have hzN:Z[Y.length]? =some (.box [.x (.str dn),.x (.sl (rows ZV l))]):=by rw[hZ];exact ZEf Y _ _
   have hz0:=ZEf Z;have hz1:=ZcR Z;have hs0:=ZTp Z;have hs1:=ZeM Z;have hsn:=ZdE Z;have hln: ∀x:Ob,(Z++ [x]).length=Z.length+1:=fun x=>by simp
   have uu:=Km uu hzE hzN hz0 hz1 hs0 hs1 hsn hln;rw[←hZ];refine nz ?_;refine rg tT [0,3,33,34,35,36] ?_;refine cd (fun h1=> ?_) (fun h1=> ?_)
   ·have hj4:j<r.length:=by omega
    have hrw:=ZKE r j hj4;have hg:r[j]=r.getD j ([],[]):=by simp[hj4]
    have hal:=KD (ZGu L l) r j hj4;have hno:ZGu L l (r.getD j ([],[]))=false→r.all (ZGu L l)=false:=fun h=>YP (ZGu L l) r j hj4 (by rw[hg];exact h)
    have hpl:=hpb r[j] (Yl hj4);rw[hg]at hal hpl;generalize r.getD j ([],[])=p at hrw hal hno hpl;have hn1:ZGu L l p=((ZI L (ZF p.1)).isSome&&ZPR l p.1 p.2 (tyV L (ZF p.1)).2.1):=rfl;have hdp:decide (p.1.length≤140737488355328)=true:=Zc (by omega);have hdh:decide (smL l∧p.1.length≤140737488355328)=true:=Zc ⟨h,by omega⟩;have uu:=ξ5 uu hrw hdp hdh @tyD.eq_1;refine rg tT [0,3,10,33,34,35] ?_;refine WI.dregB tT [0,3,10,11,12,33,34,35] ?_
    iterate 3 refine Yd ?_
    refine QH ?_;refine Yd ?_;refine QH ?_;refine dQC ?_;refine Yd ?_
    iterate 2 refine dFG ?_
    refine dKG ?_;refine dAG ?_;refine Yd ?_;refine dN ?_;refine nz ?_;refine rg tT [0,3,33,34,35,61] ?_;refine cd (fun h2=> ?_) (fun h2=> ?_)
    ·have hf:ZGu L l p=false:=by rw[hn1];clear uu;grind
     rw[hno hf]at hres;subst hres;refine rg tT [4] ?_;refine lf ?_;exact⟨rfl,_,congrArg (KJ _ _) (ZZN hZ _),by simp[Ob.nof,hW]⟩
    ·have hf:ZGu L l p=true:=by rw[hn1];clear uu;grind
     have hall2:(r.take (j+1)).all (ZGu L l)=true:=by rw[hal,hall,hf];rfl
     refine WI.orderA [0,3,33,34,35] ?_;refine rg tT [0,3,33,34,35] ?_;exact⟨⟨j+1,_,rfl,congrArg (KJ _ _) (ZZN hZ _),by simp[Ob.nof,hW],by omega,hall2⟩,by simp[ZX,Ab.get,D.val,ZH];omega⟩
   ·obtain rfl:j=r.length:=by omega
    rw[KW]at hall;rw[hall]at hres;subst hres;refine rg tT [4] ?_;refine lf ?_;exact⟨rfl,_,congrArg (KJ _ _) hZ,by simp[Ob.nof,hW]⟩
set_option maxHeartbeats 4000000 in
theorem ZaT(L:List (Tx×Zg))(M:List (Tx×Zs))(Y:List Ob)(dn:Tx)(l:List ZU)(h:smL l)(hk:ZIQ M l):ZG Tryz.prog 40 [.ptr 0 0,.agg [.x (.str dn),.x (.sl (rows ZV l))]] (KJ (JK L) (JC M) Y) (ZGa (.x (.int .i64 (ZDB L M dn l))) (JK L) (JC M) Y):=by
 rcases hres:ZDB L M dn l with v
 unfold ZDB at hres;have hul:ZY ZV (rows ZV l)=some l:=Zj YJ l;have hdk:=Zc hk;have hg0:=ZEf Y;have hL1: ∀m:Nat,decide (1<m+1+1+1+1)=true:=fun m=>Zc (by omega)
 have hL2: ∀m:Nat,decide (2<m+1+1+1+1)=true:=fun m=>Zc (by omega)
 have hL3: ∀m:Nat,decide (3<m+1+1+1+1)=true:=fun m=>Zc (by omega)
 have hu1:=ZD8 L;have hu2:=ZEE M;refine fC 40 true ?_;intro C0 E0;have uu:=Km @ZCy.eq_1 @ZCy.eq_2 hul hdk @ZBm @ZBa @ZCH @ZCP (Km @Qd @Ql hg0 hL1 hL2 hL3 hu1 hu2 @ZW4);have tT:=ZIl;refine nz ?_;refine rg tT [0,3] ?_;refine WI.dregB tT [0,3,5] ?_
 iterate 3 refine Yd ?_
 iterate 2 refine QH ?_
 refine dAC ?_;refine Yd ?_;refine dN ?_;refine nz ?_;refine rg tT [0,3,5,13] ?_;refine cd (fun h0=> ?_) (fun h0=> ?_)
 ·have hc:ZJh L M l≠0:=by simpa using h0
  rw[if_pos hc]at hres;subst hres;refine rg tT [4] ?_;refine lf ?_;exact⟨rfl,_,rfl,rfl⟩
 ·have hc: ¬ZJh L M l≠0:=by simpa using h0
  rw[if_neg hc]at hres;refine WI.cutA ZIl [15,16] 2 ?_;simp only[ξU,ZBZ,ZDj,ZCo];refine oS ?_;refine oG ?_;refine oP ?_;refine ZHX ?_;refine WR.callF (ZTQ) (ZYK L M (Y++ [.box [.x (.str dn),.x (.sl (rows ZV l))]]) dn l h) ?_;rintro _ _ ⟨rfl,Z,rfl,hZ⟩;refine WR.regB ZIl [18] ?_;refine oG ?_;refine oN ?_;refine nz ?_;refine cd (fun h1=> ?_) (fun h1=> ?_)
  ·have hc2: ¬ZNK L dn l=true:=by simpa using h1
   rw[if_neg hc2]at hres;subst hres;refine rg tT [4] ?_;refine lf ?_;exact⟨rfl,_,congrArg (KJ _ _) (Yk _ _ _),by simp[Ob.nof,hZ]⟩
  ·have hc2:ZNK L dn l=true:=by simpa using h1
   rw[if_pos hc2]at hres;subst hres;refine rg tT [4] ?_;refine lf ?_;exact⟨rfl,_,congrArg (KJ _ _) (Yk _ _ _),by simp[Ob.nof,hZ]⟩
end Go.Proofs.YtiogclkbccdefaaGreatDoor
end
section
namespace Go.Proofs.YtiogclkbccdefaaGreatDoor
open Go.RowKit Go.Bo Go.Ab
theorem sn0(Z:List Ob)(x:Ob):(Z++ [x])[Z.length]? =some x:=by simp
theorem sn1(Z:List Ob)(x y:Ob):(Z++ [x]++ [y])[Z.length]? =some x:=by rw[Yk];exact ZEf Z x _
theorem sn2(Z:List Ob)(x y z:Ob):(Z++ [x]++ [y]++ [z])[Z.length]? =some x:=by rw[Yk,Yk];exact ZEf Z x _
theorem st0(Z:List Ob)(x y:Ob):(Z++ [x]).set Z.length y=Z++ [y]:=by rw[ZDD _ _ (by omega)];simp
theorem st1(Z:List Ob)(x y z:Ob):(Z++ [x]++ [y]).set Z.length z=Z++ [z]++ [y]:=by rw[Yk,ZDD _ _ (by omega)];simp
theorem sz1(Z W:List Ob)(x:Ob):(Z++ [x]++W)[Z.length]? =some x:=by rw[Yk];exact ZEf Z x _
theorem sz2(Z W:List Ob)(x y:Ob):(Z++ [x]++ [y]++W)[Z.length]? =some x:=by rw[Yk,Yk];exact ZEf Z x _
theorem as2(Y:List Ob)(a b:Ob):Y++ [a]++ [b]=Y++ [a,b]:=by simp
theorem as3(Y Z:List Ob)(a b:Ob):Y++ [a]++ [b]++Z=Y++a::b::Z:=by simp
theorem as4(Y Z:List Ob)(a b c:Ob):Y++ [a]++ [b]++ [c]++Z=Y++a::b::c::Z:=by simp
abbrev EM:=List (Tx×ZCO)
def QY(m:EM):List Pr:=YV Jo ZCJ.enc m
theorem ZPr(m:EM)(k:Tx):Yx (QY m) [X.str k]=(ZI m k).map fun e=> [.x (.str e.1),.x (.sl (rows ZV e.2.1))]:=by
 unfold QY;rw[ZDp Jo ZCJ.enc hkS m k];rfl
theorem Zcf(m:EM)(k:Tx)(e:ZCO):YM (QY m) [X.str k] [.x (.str e.1),.x (.sl (rows ZV e.2.1))]=QY (Zz m k e):=ZCg Jo ZCJ.enc hkS m k e
theorem ZVk(m:EM):(QY m).length=m.length:=ZHo _ _ _
theorem ZTs(s t:Tx):ZA7 [X.str s] [X.str t]=decide (s=t):=hkS s t
theorem ZVb(B:List TB)(s:Tx):Yx (B.map YX) [X.str s]=(ZI B s).map fun x=> [.ref (x.1+6) x.2.length 0 x.2.length]:=by
 induction B with
 |nil=>rfl
 |cons p B ih=>
  simp only[YL,YX,Yx,ZTs]at ih⊢;by_cases h:s=p.1
  ·simp[ZI,h]
  ·simp only[h,decide_false,Yt,if_false];rw[ih];simp[ZI,h]
theorem ZU7(B:List TB)(s:Tx)(i:Nat)(l:List Tx):YM (B.map YX) [X.str s] [.ref (i+6) l.length 0 l.length]=(Zz B s (i,l)).map YX:=by
 induction B with
 |nil=>rfl
 |cons p B ih=>
  simp only[YL,YX,YM,Zz,ZTs]at ih⊢;by_cases h:s=p.1
  ·simp[h,YX]
  ·simp only[h,decide_false,Yt,if_false];rw[ih];simp[YX]
theorem ZdT(P1 P2:List Pr)(m:EM)(o:Ob)(Y:List Ob):ZG Tryz.prog 14 [.ptr 0 0] (KJ P1 P2 (.mpo .str true (QY m)::o::Y)) (ZGa (.x (.int .i64 m.length)) P1 P2 (.mpo .str true (QY m)::o::Y)):=by
 have hl:=ZVk m;refine fC 14 true ?_;intro C0 E0;have uu:=hl;have tT:=(ZE:SsOk Tryz.prog ZQ);refine nz ?_;refine rg tT [0] ?_;refine rg tT [0,4] ?_;refine ce (fun h0=> ?_) (fun h0=> ?_)
 ·simp at h0
 ·refine rg tT [2] ?_;refine lf ?_;exact⟨rfl,[],by simp,rfl⟩
def ZCW(c:Int)(m:EM)(dn:Tx)(l:List ZU):EM:=if c=0 then Zz m dn (dn,YF l,())else m
end Go.Proofs.YtiogclkbccdefaaGreatDoor
end
section
namespace Go.Proofs.YtiogclkbccdefaaGreatDoor
open Go.RowKit Go.Bo Go.Ab
def KR(B:List (Tx×List Tx))(n:Tx):List Tx:=(ZI B n).getD []
def JU(B:List (Tx×List Tx)):Nat→Tx→List Tx
 |0,_=> []
 |k+1,n=>(KR B n).flatMap fun s=>s::JU B k s
def ZEd(B:List (Tx×List Tx)):Nat→Tx→Prop
 |0,n=>KR B n= []
 |k+1,n=> ∀s∈KR B n,ZEd B k s
theorem ZHs{Y:List Ob}{B:List TB}(h:okB Y B)(Z:List Ob):okB (Y++Z) B:=
 ⟨h.1,h.2.1,fun x hx=>⟨by rw[YR (ZR (h.2.2 x hx).1).1];exact(h.2.2 x hx).1,(h.2.2 x hx).2⟩⟩
theorem ZMf(B:List TB)(s:Tx):ZI (B.map YZ) s=(ZI B s).map (·.2):=by
 induction B with
 |nil=>rfl
 |cons p B ih=>
  by_cases h:s=p.1
  ·simp[ZI,h,YZ]
  ·have e1:ZI (YZ p::B.map YZ) s=ZI (B.map YZ) s:=by simp[ZI,YZ,h]
   have e2:ZI (p::B) s=ZI B s:=by simp[ZI,h]
   rw[YL,e1,e2];exact ih
theorem ra0(Y W V:List Ob)(R:Ob):(Y++R::W++V)[Y.length]? =some R:=by rw[Yk,QC];exact ZEf Y R _
theorem ra1(Y W V U:List Ob)(R:Ob):(Y++R::W++V++U)[Y.length]? =some R:=by rw[Yk,Yk,QC];exact ZEf Y R _
theorem QR(Y W V:List Ob)(R R':Ob):(Y++R::W++V).set Y.length R'=Y++R'::W++V:=by rw[Yk,QC,ZTp];simp
theorem rs1(Y W V U:List Ob)(R R':Ob):(Y++R::W++V++U).set Y.length R'=Y++R'::W++V++U:=by rw[Yk,Yk,QC,ZTp];simp
theorem ZUR{f:Tx→List Tx}(row:List Tx)(j:Nat)(h:j<row.length):(row.take (j+1)).flatMap (fun s=>s::f s)=(row.take j).flatMap (fun s=>s::f s)++row.getD j []::f (row.getD j []):=by
 rw[Ko h,ZXO];simp[h]
theorem ZbQ{α β:Type}(f:α→List β)(l:List α)(j:Nat):((l.take j).flatMap f).length≤(l.flatMap f).length:=by
 conv=>rhs;rw[←ZCn j l,ZXO,Zx]
 omega
theorem Zdj(P1 P2:List Pr)(o b:Ob)(Y W Z:List Ob)(acc:List Tx)(s:Tx)(w:List Tx)(x:Ob):KJ P1 P2 (o::b::(Y++ .rows false 9 1 (rows ZB acc++ [[.str s]]++rows ZB w)::W++ [x]++Z))=KJ P1 P2 (o::b::(Y++ .rows false 9 1 (rows ZB (acc++s::w))::(W++x::Z))):=by
 have h:rows ZB acc++ [[X.str s]]++rows ZB w=rows ZB (acc++s::w):=by simp[rows,ZB]
 rw[h];simp
set_option maxHeartbeats 4000000 in
theorem ZPg(P1 P2:List Pr)(o:Ob)(Bt:List TB)(f:Tx→List Tx)(n:Tx)(Y:List Ob)(row:List Tx)(hB:okB Y Bt)(hrow:KR (Bt.map YZ) n=row)
  (hih: ∀s∈row,∀Y,okB Y Bt→(f s).length≤1000000→ZG Tryz.prog 52 [.ptr 0 0,.x (.str s)] (KJ P1 P2 (o:: .mpo .str false (Bt.map YX)::Y)) (ZGa (.x (.sl (rows ZB (f s)))) P1 P2 (o:: .mpo .str false (Bt.map YX)::Y)))
  (hl:(row.flatMap fun s=>s::f s).length≤1000000):ZG Tryz.prog 52 [.ptr 0 0,.x (.str n)] (KJ P1 P2 (o:: .mpo .str false (Bt.map YX)::Y)) (ZGa (.x (.sl (rows ZB (row.flatMap fun s=>s::f s)))) P1 P2 (o:: .mpo .str false (Bt.map YX)::Y)):=by
 have hg:=ZVb Bt n;unfold KR at hrow;rw[ZMf]at hrow;rcases hm:ZI Bt n with _|⟨i,row'⟩
 ·rw[hm]at hg hrow;subst hrow;rw[Qf]at hg;refine fC 52 true ?_;intro C0 E0;have uu:=hg;have tT:=(ZE:SsOk Tryz.prog ZQ);refine nz ?_;refine rg tT [0,1] ?_;refine rg tT [0,1,5] ?_;refine rg tT [0,5,13,14,15] ?_;refine WI.loopN 1 ?_;refine WI.round ?_;refine nz ?_;refine rg tT [0,5,13,14,15,16] ?_;refine ce (fun h0=> ?_) (fun h0=> ?_)
  ·exact absurd h0 (by decide)
  ·refine rg tT [4] ?_;refine WI.nn0A ?_;refine lf ?_;exact⟨rfl,[],by simp,rfl⟩
 ·rw[hm]at hg hrow;rw[YS]at hg;obtain rfl:row'=row:=hrow;obtain⟨hY,hrl⟩:=hB.2.2 _ (ZAH hm);simp only at hY hrl;have hrY: ∀W:List Ob,(Y++W)[i]? =some (.rows false 9 1 (rows ZB row')):=fun W=>by
   rw[YR (ZR hY).1];exact hY
  have hrn:=Zo ZB row';have htl:(rows ZB row').take row'.length=rows ZB row':=by rw[←hrn,KW]
  refine fC 52 true ?_;intro C0 E0;have uu:=ξ5 hg hY hrY hrn htl;have tT:=(ZE:SsOk Tryz.prog ZQ);refine nz ?_;refine rg tT [0,1] ?_;refine rg tT [0,1,5] ?_;refine rg tT [0,5,13,14,15] ?_;refine WI.ownA 5 9 1 ?_;refine WI.orderA [0,5,13,14,15] ?_;obtain⟨XS,hX⟩: ∃XS,XS=row'.flatMap (fun s=>s::f s):=⟨_,rfl⟩;rw[←hX]at hl⊢;refine WI.loop (fun φ os=> ∃(j:Nat) (acc:List Tx) (W:List Ob),φ= [(0,.ptr 0 0),(5,.ref (Y.length+1+1+1+1+1+1) acc.length 0 acc.length),(13,.ref (i+6) row'.length 0 row'.length),(14,.x (.int .i64 row'.length)),(15,.x (.int .i64 j))]∧os=KJ P1 P2 (o:: .mpo .str false (Bt.map YX)::(Y++ .rows false 9 1 (rows ZB acc)::W))∧W.all Ob.nof=true∧j≤row'.length∧acc=(row'.take j).flatMap (fun s=>s::f s)) (ZX row'.length 15) ?_ (fun φ os hI=> ?_)
  ·exact⟨0,[],[],rfl,rfl,rfl,by omega,rfl⟩
  ·obtain⟨j,acc,W,rfl,rfl,hW,hj,hacc⟩:=hI;have hra:=ra0 Y W;have hra1:=ra1 Y W;have hrs:=QR Y W;have hrs1:=rs1 Y W;have uu:=ξ7 uu hra hra1 hrs hrs1 sn0 (ZEf Y);refine nz ?_;refine rg tT [0,5,13,14,15,16] ?_;refine cd (fun h0=> ?_) (fun h0=> ?_)
   ·have hj4:j<row'.length:=by omega
    have hrw:(rows ZB row')[j]? =some [X.str (row'.getD j [])]:=by simp[rows,hj4,ZB]
    have hst:=ZUR (f:=f) row' j hj4;have hle:=ZbQ (fun s=>s::f s) row' (j+1);rw[hst,←hacc,←hX,Zx,JJ]at hle;have hds:=hih (row'.getD j []) (by rw[show row'.getD j []=row'[j] by simp[hj4]];exact Yl hj4);generalize row'.getD j []=s at hrw hst hle hds;have hta:(rows ZB acc).take acc.length=rows ZB acc:=by rw[←Zo ZB acc,KW]
    have uu:=ξ4 uu hrw hta (Zo ZB acc);refine rg tT [0,5,7,13,14,15] ?_;refine WI.cutA ZE [0,13,14,15,22,23,24] 6 ?_;simp only[ξU,ZBZ,ZDj,ZCo]
    iterate 2 refine oS ?_
    iterate 2 refine oG ?_
    iterate 2 refine oS ?_
    refine oP ?_;refine ZHX ?_;refine WR.callF ((ZZ 52)) (hds (Y++ .rows false 9 1 (rows ZB acc++ [[.str s]])::W++ [.rows false 9 1 [[.str s]]]) (by rw[Yk];exact ZHs hB _) (by omega)) ?_;rintro _ _ ⟨rfl,Z,rfl,hZ⟩;refine WR.regB ZE [0,5,13,14,15] ?_;refine oG ?_;refine oS ?_;refine oN ?_;refine nz ?_;refine WI.orderA [0,5,13,14,15] ?_;have hla:(acc++s::f s).length=acc.length+1+(f s).length:=by simp;omega
    refine rg tT [0,5,13,14,15] ?_;exact⟨⟨j+1,acc++s::f s,W++_::Z,by rw[hla];rfl,Zdj P1 P2 o _ Y W Z acc s _ _,by simp[Ob.nof,hW,hZ],by omega,by rw[hst,←hacc]⟩,by simp[ZX,Ab.get,D.val,ZH];omega⟩
   ·obtain rfl:j=row'.length:=by omega
    rw[KW,←hX]at hacc;subst hacc;have hta:(rows ZB acc).take acc.length=rows ZB acc:=by rw[←Zo ZB acc,KW]
    have uu:=Jz uu hta (Zo ZB acc);refine rg tT [4] ?_;refine lf ?_;exact⟨rfl,.frz 1 (rows ZB acc)::W,congrArg (fun z=>KJ P1 P2 (_::_::z)) (ZTp Y _ _ W),by simp[Ob.nof,hW]⟩
theorem ZPK(P1 P2:List Pr)(o:Ob)(Bt:List TB): ∀(k:Nat) (n:Tx) (Y:List Ob) (hB:okB Y Bt) (hd:ZEd (Bt.map YZ) k n) (hl:(JU (Bt.map YZ) k n).length≤1000000),
  ZG Tryz.prog 52 [.ptr 0 0,.x (.str n)] (KJ P1 P2 (o:: .mpo .str false (Bt.map YX)::Y)) (ZGa (.x (.sl (rows ZB (JU (Bt.map YZ) k n)))) P1 P2 (o:: .mpo .str false (Bt.map YX)::Y))
 |0,n,Y,hB,hd,_=>ZPg P1 P2 o Bt (fun _=> []) n Y [] hB hd (fun s h=>(by cases h)) (by decide)
 |k+1,n,Y,hB,hd,hl=>ZPg P1 P2 o Bt (JU (Bt.map YZ) k) n Y _ hB rfl (fun s hs Y hB hl=>ZPK P1 P2 o Bt k s Y hB (hd s hs) hl) hl
end Go.Proofs.YtiogclkbccdefaaGreatDoor
end
section
namespace Go.Proofs.YtiogclkbccdefaaGreatDoor
open Go.RowKit Go.Bo Go.Ab
theorem sy1(Z W:List Ob)(x y:Ob):(Z++ [x]++W).set Z.length y=Z++ [y]++W:=by rw[Yk,ZDD _ _ (by omega)];simp
def ZU8(m:EM)(B:List (Tx×List Tx))(k:Nat)(n:Tx):List Tx:=if n= []then JU B k []else if(ZI m n).isSome then n::JU B k n else []
set_option maxHeartbeats 4000000 in
theorem ZZf(P1 P2:List Pr)(m:EM)(Bt:List TB)(k:Nat)(n:Tx)(Y:List Ob)(hB:okB Y Bt)(hd:ZEd (Bt.map YZ) k n)(hl:(JU (Bt.map YZ) k n).length≤999999):
  ZG Tryz.prog 23 [.ptr 0 0,.x (.str n)] (KJ P1 P2 (.mpo .str true (QY m):: .mpo .str false (Bt.map YX)::Y)) (ZGa (.x (.sl (rows ZB (ZU8 m (Bt.map YZ) k n)))) P1 P2 (.mpo .str true (QY m):: .mpo .str false (Bt.map YX)::Y)):=by
 have hg:=ZPr m n;unfold ZU8;by_cases hn:n= []
 ·subst hn;rw[if_pos rfl];refine fC 23 true ?_;intro C0 E0;have uu:=trivial;have tT:=(ZE:SsOk Tryz.prog ZQ);refine nz ?_;refine rg tT [0,1] ?_;refine rg tT [0,1,8] ?_;refine ce (fun h0=> ?_) (fun h0=> ?_)
  ·simp at h0
  ·refine rg tT [0,1,10] ?_;refine ct (fun h1=> ?_) (fun h1=> ?_)
   ·refine WI.cutA ZE [11] 1 ?_;simp only[ξU,ZBZ,ZDj,ZCo];refine oS ?_;refine oP ?_;refine ZHX ?_;refine WR.callF ((ZZ 52)) (ZPK P1 P2 _ Bt k [] Y hB hd (by omega)) ?_;rintro _ _ ⟨rfl,Z,rfl,hZ⟩;refine WR.regB ZE [4] ?_;refine oS ?_;refine oN ?_;refine nz ?_;refine lf ?_;exact⟨rfl,Z,rfl,hZ⟩
   ·simp at h1
 ·rw[if_neg hn];rcases hm:ZI m n with _|⟨dn,l,u⟩
  ·rw[hm,Qf]at hg;rw[if_neg (by simp)];refine fC 23 true ?_;intro C0 E0;have uu:=Jz hg @sn0 @st0;have tT:=(ZE:SsOk Tryz.prog ZQ);refine nz ?_;refine rg tT [0,1] ?_;refine rg tT [0,1,8] ?_;refine ce (fun h0=> ?_) (fun h0=> ?_)
   ·simp at h0
   ·refine rg tT [0,1,10] ?_;refine ce (fun h1=> ?_) (fun h1=> ?_)
    ·exact hn (by simpa using h1)
    ·refine rg tT [0,1,6] ?_;refine rg tT [0,1,23] ?_;refine ct (fun h2=> ?_) (fun h2=> ?_)
     ·refine rg tT [4] ?_;refine WI.nn0A ?_;refine lf ?_;exact⟨rfl,[_],rfl,rfl⟩
     ·simp at h2
  ·rw[hm,YS]at hg;rw[if_pos (by simp)];have hwl:=Zo ZB (JU (Bt.map YZ) k n);have hwt:(rows ZB (n::JU (Bt.map YZ) k n)).take (1+(JU (Bt.map YZ) k n).length)=rows ZB (n::JU (Bt.map YZ) k n):=JH (by rw[Zo,JJ];omega);refine fC 23 true ?_;intro C0 E0;have uu:=ξ6 hg @sn0 @st0 @sz1 @sy1 hwl;have tT:=(ZE:SsOk Tryz.prog ZQ);refine nz ?_;refine rg tT [0,1] ?_;refine rg tT [0,1,8] ?_;refine ce (fun h0=> ?_) (fun h0=> ?_)
   ·simp at h0
   ·refine rg tT [0,1,10] ?_;refine ce (fun h1=> ?_) (fun h1=> ?_)
    ·exact hn (by simpa using h1)
    ·refine rg tT [0,1,6] ?_;refine rg tT [0,1,23] ?_;refine ce (fun h2=> ?_) (fun h2=> ?_)
     ·simp at h2
     ·refine WI.cutA ZE [25,26,27] 4 ?_;simp only[ξU,ZBZ,ZDj,ZCo];refine oS ?_;refine oG ?_
      iterate 2 refine oS ?_
      refine oP ?_;refine ZHX ?_;refine WR.callF ((ZZ 52)) (ZPK P1 P2 _ Bt k n (Y++ [.box [.x (.str dn),.x (.sl (rows ZV l))]]++ [.rows false 9 1 [[.str n]]]) (by rw[Yk];exact ZHs hB _) hd (by omega)) ?_;rintro _ _ ⟨rfl,Z,rfl,hZ⟩;refine WR.regB ZE [4] ?_;refine oG ?_;refine oS ?_;refine oN ?_;refine nz ?_;obtain⟨Z0,hZ0⟩: ∃Z0,Z0=Y++ [Ob.box [.x (.str dn),.x (.sl (rows ZV l))]]:=⟨_,rfl⟩;have hR: [X.str n]::rows ZB (JU (Bt.map YZ) k n)=rows ZB (n::JU (Bt.map YZ) k n):=rfl;rw[←hZ0,hR];have hl1:(rows ZB (n::JU (Bt.map YZ) k n)).length=1+(JU (Bt.map YZ) k n).length:=by rw[Zo,JJ];omega
      generalize rows ZB (n::JU (Bt.map YZ) k n)=R at hwt hl1⊢;have uu:=Jz uu hwt hl1;refine lf ?_;exact⟨rfl,_,by rw[hZ0];exact congrArg (fun z=>KJ P1 P2 (_::_::z)) (as3 Y Z _ _),by simp[Ob.nof,hZ]⟩
theorem ZZ5(P1 P2:List Pr)(m:EM)(Bt:List TB)(k:Nat)(Y:List Ob)(hB:okB Y Bt)(hd:ZEd (Bt.map YZ) k [])(hl:(JU (Bt.map YZ) k []).length≤999999):
  ZG Tryz.prog 15 [.ptr 0 0] (KJ P1 P2 (.mpo .str true (QY m):: .mpo .str false (Bt.map YX)::Y)) (ZGa (.x (.sl (rows ZB (JU (Bt.map YZ) k [])))) P1 P2 (.mpo .str true (QY m):: .mpo .str false (Bt.map YX)::Y)):=by
 refine fC 15 true ?_;intro C0 E0;have uu:=trivial;have tT:=(ZE:SsOk Tryz.prog ZQ);refine nz ?_;refine rg tT [0] ?_;refine WI.cutA ZE [3] 1 ?_;simp only[ξU,ZBZ,ZDj,ZCo];refine oS ?_;refine oP ?_;refine ZHX ?_;refine WR.callF ((ZZ 23)) (ZZf P1 P2 m Bt k [] Y hB hd hl) ?_;rintro _ _ ⟨rfl,Z,rfl,hZ⟩;refine WR.regB ZE [2] ?_;refine oS ?_;refine oN ?_;refine nz ?_;refine lf ?_;exact⟨rfl,Z,rfl,hZ⟩
end Go.Proofs.YtiogclkbccdefaaGreatDoor
end
section
namespace Go.Proofs.YtiogclkbccdefaaGreatDoor
open Go.RowKit Go.Bo Go.Ab
def ZOT(r0:D)(m:EM)(B:List (Tx×List Tx))(P1 P2:List Pr)(r:D)(os':List Ob):Prop:=r=r0∧ ∃(Bt:List TB) (Y:List Ob),(Bt.map YZ).Perm B∧okB Y Bt∧Y.all Ob.nof=true∧os'=KJ P1 P2 (.mpo .str true (QY m):: .mpo .str false (Bt.map YX)::Y)
def ZDf(L:List (Tx×Zg))(M:List (Tx×Zs))(m:EM)(dn:Tx)(l:List ZU):Int:=
 if ZAm dn=false then 34 else if(ZI m dn).isSome=true then 68 else if(ZI m (KG dn)).isSome=false∧KG dn≠ []then 32 else if ZDB L M dn l≠0 then ZDB L M dn l else if 1024≤m.length then 80 else 0
def ZCq(l:List Tx)(s:Tx):List Tx:=l.take (Ye l s)++s::l.drop (Ye l s)
def ZAn(c:Int)(B:List (Tx×List Tx))(dn:Tx):List (Tx×List Tx):=if c=0 then Zz B (KG dn) (ZCq (KR B (KG dn)) dn)else B
theorem ZF2{v:Int}(hv:v≠0)(m:EM)(Bt:List TB)(P1 P2:List Pr)(Y:List Ob)(dn:Tx)(l:List ZU)(hB:okB Y Bt)(hY:Y.all Ob.nof=true)(X:List Ob)(hX:X.all Ob.nof=true):
  ZOT (.x (.int .i64 v)) (ZCW v m dn l) (ZAn v (Bt.map YZ) dn) P1 P2 (.x (.int .i64 v)) (KJ P1 P2 (.mpo .str true (QY m):: .mpo .str false (Bt.map YX)::(Y++X))):=by
 unfold ZCW ZAn;rw[if_neg hv,if_neg hv];exact⟨rfl,Bt,_,ZJk _,ZHs hB _,by rw[ZM7,hY,hX];rfl,rfl⟩
theorem ZAf: ∀(a b:List Ob),(∀(id:Nat) (ds:List D),a[id]? =some (.box ds)→b[id]? =some (.box ds))→a.length≤b.length→JO a b=true
 | [],_,_,_=>rfl
 |x::a,[],_,h=>by simp at h
 |x::a,y::b,h,hl=>by
  have ih:=ZAf a b (fun id ds hid=>by simpa using h (id+1) ds (by simpa using hid)) (by simpa using hl);cases x with
  |box ds=>
   have h0:=h 0 ds rfl;simp only[ZBW,Ze]at h0;subst h0;simp only[JO,Ob.beq_refl,ih,ZTo]
  |_=>simpa only[JO]using ih
theorem ZL.atR{P:Program}{f:FuncId}{ρ:List Nat}{args:List D}{OS:List Ob}{r:D}{os':List Ob}(hok:Kj ρ args OS=true)(h:ZL P f (Zn (YO ρ) args) (YI ρ OS) r os')(hl:ρ.length≤os'.length):ZL P f args OS (r.ren (Ja ρ OS.length os'.length)) (Jl ρ OS os'):=by
 have hf:ZG P f (Zn (YO ρ) args) (YI ρ OS) (fun r' os2=>r'=r∧os2=os'):=by
  intro c E vs R hvl;refine(h c E vs R hvl).mono ?_;rintro e w' ⟨v,E',rfl,rfl,R',ev,hv⟩;exact⟨v,E',_,_,rfl,rfl,R',ev,hv,rfl,rfl⟩
 refine ZG.mcalls (fun c E vs R hvl=>((ZG.lift hok hf (fun r os' ⟨_,h⟩=>by rw[h];exact hl)) c E vs R hvl).mono ?_);rintro e w' ⟨v,E',r2,os2,rfl,rfl,R',ev,hv,r3,os3,⟨rfl,rfl⟩,rfl,rfl⟩;exact⟨v,E',_,_,rfl,rfl,R',ev,hv,rfl,rfl⟩
theorem ZR9(B:List TB)(s:Tx)(i:Nat)(l:List Tx):(Zz B s (i,l)).map YZ=Zz (B.map YZ) s l:=by
 induction B with
 |nil=>rfl
 |cons p B ih=>
  by_cases h:s=p.1
  ·have e1:Zz (p::B) s (i,l)=(s,(i,l))::B:=by simp[Zz,h]
   have e2:Zz (YZ p::B.map YZ) s l=(s,l)::B.map YZ:=by simp[Zz,YZ,h]
   rw[e1,YL,YL,e2];rfl
  ·have e1:Zz (p::B) s (i,l)=p::Zz B s (i,l):=by simp[Zz,h]
   have e2:Zz (YZ p::B.map YZ) s l=YZ p::Zz (B.map YZ) s l:=by simp[Zz,YZ,h]
   rw[e1,YL,YL,e2,ih]
theorem Zav{κ β:Type}[DecidableEq κ]{A:List (κ×β)}{c:κ}(h:ZI A c=none):c∉A.map (·.1):=by
 intro hc;obtain⟨p,hp,rfl⟩:=YW.1 hc;unfold ZI at h;rw[Option.map_eq_none_iff,List.find?_eq_none]at h;exact h p hp (by simp)
theorem ZZ7{Y:List Ob}{B:List TB}(h:okB Y B)(W:List Ob)(s:Tx)(l:List Tx)(hs:ZI B s=none)(hl:l.length≤1000000)(Z:List Ob):okB (Y++W++Ob.rows false 9 1 (rows ZB l)::Z) (Zz B s ((Y++W).length,l)):=by
 rw[ZBq hs];have hlt: ∀x∈B,x.2.1<Y.length:=fun x hx=>(ZR (h.2.2 x hx).1).1
 refine⟨?_,?_,fun x hx=> ?_⟩
 ·rw[KC,ZFW];exact⟨h.1,by simp,fun a ha b hb e=>Zav hs (by simp at hb;subst hb;rw[←e];exact ha)⟩
 ·rw[KC,ZFW];refine⟨h.2.1,by simp,fun a ha b hb e=> ?_⟩;obtain⟨x,hx,rfl⟩:=YW.1 ha;have:=hlt x hx;simp at hb;omega
 ·rcases KT.1 hx with hx|hx
  ·refine⟨?_,(h.2.2 x hx).2⟩;rw[Yk,YR (hlt x hx)];exact(h.2.2 x hx).1
  ·simp only[ZBP]at hx;subst hx;exact⟨by simp,hl⟩
theorem Zam{Y:List Ob}{B:List TB}(h:okB Y B)(s:Tx)(i:Nat)(l0 l:List Tx)(hs:ZI B s=some (i,l0))(hl:l.length≤1000000)(W:List Ob):okB (Y.set i (.rows false 9 1 (rows ZB l))++W) (Zz B s (i,l)):=by
 have hp:=ZWJ hs;have hq:=ZIq B s (i,l);have hm:=ZAH hs;have hi:=(ZR (h.2.2 _ hm).1).1;have n1:((s,(i,l0))::YY B s).map (·.1)=((s,(i,l))::YY B s).map (·.1):=rfl;have n2:((s,(i,l0))::YY B s).map (·.2.1)=((s,(i,l))::YY B s).map (·.2.1):=rfl;have m1:=(hp.map (·.1)).nodup_iff.1 h.1;have m2:=(hp.map (·.2.1)).nodup_iff.1 h.2.1;refine⟨(hq.map (·.1)).nodup_iff.2 (n1▸m1),(hq.map (·.2.1)).nodup_iff.2 (n2▸m2),fun x hx=> ?_⟩;rcases QM.1 (hq.mem_iff.1 hx)with rfl|hx
 ·exact⟨by rw[YR (by simpa using hi)];simp[hi],hl⟩
 ·have hxB:x∈B:=hp.mem_iff.2 (ZGo _ hx);have hx2:=h.2.2 x hxB;have hxl:=(ZR hx2.1).1;refine⟨?_,hx2.2⟩;have hne:i≠x.2.1:=fun e=>by
   rw[YL,ZCr]at m2;exact m2.1 (YW.2 ⟨x,hx,e.symm⟩)
  rw[YR (by simpa using hxl),ZEe hne];exact hx2.1
theorem ZUx(m:EM)(Bt:List TB)(P1 P2:List Pr)(Y U:List Ob)(dn:Tx)(l:List ZU)(hB:okB Y Bt)(hY:Y.all Ob.nof=true)(hU:U.all Ob.nof=true)(hs:ZI Bt (KG dn)=none)(OS:List Ob)(hOS:OS=KJ P1 P2 (.mpo .str true (QY (Zz m dn (dn,YF l,()))):: .mpo .str false (Bt.map YX)::(Y++U)))(o:Ob)(ho:o.nof=true):
  ZOT (.x (.int .i64 0)) (ZCW 0 m dn l) (ZAn 0 (Bt.map YZ) dn) P1 P2 (.x (.int .i64 0)) ((OS++ [o]++ [Ob.rows false 9 1 [[.str dn]]]).set 5 (.mpo .str false (YM (Bt.map YX) [.str (KG dn)] [.ref (OS.length+1) 1 0 1]))):=by
 have hol:OS.length+1=(Y++(U++ [o])).length+6:=by rw[hOS];simp[KJ];omega
 refine⟨rfl,Zz Bt (KG dn) ((Y++(U++ [o])).length,[dn]),Y++(U++ [o])++ [Ob.rows false 9 1 (rows ZB [dn])],?_,ZZ7 hB _ _ _ hs (by simp) _,?_,?_⟩
 ·rw[ZR9,ZAn,if_pos rfl];have:KR (Bt.map YZ) (KG dn)= []:=by unfold KR;rw[ZMf,hs];rfl
  rw[this];exact ZJk _
 ·simp only[ZM7,ZAJ,ZFV,hY,hU,ho];rfl
 ·rw[hol,show([D.ref ((Y++(U++ [o])).length+6) 1 0 1])= [.ref ((Y++(U++ [o])).length+6) [dn].length 0 [dn].length]from rfl,ZU7,hOS,ZCW,if_pos rfl];simp[KJ,rows,ZB]
theorem ZVl(m:EM)(Bt:List TB)(P1 P2:List Pr)(Y U:List Ob)(dn:Tx)(l:List ZU)(hB:okB Y Bt)(hY:Y.all Ob.nof=true)(hU:U.all Ob.nof=true)(i:Nat)(row:List Tx)(hs:ZI Bt (KG dn)=some (i,row))(hl:row.length≤999999)(OS:List Ob)(hOS:OS=KJ P1 P2 (.mpo .str true (QY (Zz m dn (dn,YF l,()))):: .mpo .str false (Bt.map YX)::(Y++U)))(o:Ob)(ho:o.nof=true):
  ZOT (.x (.int .i64 0)) (ZCW 0 m dn l) (ZAn 0 (Bt.map YZ) dn) P1 P2 (.x (.int .i64 0)) (((OS++ [o]).set (i+6) (.rows false 9 1 (rows ZB (ZCq row dn)))).set 5 (.mpo .str false (YM (Bt.map YX) [.str (KG dn)] [.ref (i+6) (row.length+1) 0 (row.length+1)]))):=by
 have hil:(ZCq row dn).length=row.length+1:=by
  have:=ZFq row dn;unfold ZCq;simp;omega
 have hi:=(ZR (hB.2.2 _ (ZAH hs)).1).1;simp only at hi;refine⟨rfl,Zz Bt (KG dn) (i,ZCq row dn),Y.set i (.rows false 9 1 (rows ZB (ZCq row dn)))++(U++ [o]),?_,Zam hB _ _ row _ hs (by omega) _,?_,?_⟩
 ·rw[ZR9,ZAn,if_pos rfl];have:KR (Bt.map YZ) (KG dn)=row:=by unfold KR;rw[ZMf,hs];rfl
  rw[this]
 ·simp only[ZM7,ZAJ,ZFV,hU,ho,QJ];rw[YQ]at hY⊢;intro x hx;rcases ZYU hx with h|h
  ·exact hY x h
  ·rw[h];rfl
 ·rw[←hil,ZU7,hOS,ZCW,if_pos rfl];simp only[KJ,QC,ZBn,ZCk,Yk];rw[ZMz _ _ (by omega)]
theorem ZVh(l:List Tx)(s:Tx):YB (rows ZB l) (Ye l s) [[.str s]]=rows ZB (ZCq l s):=by simp[YB,ZCq,rows,ZB]
theorem ZLj:Go.Ab.Enters Tryz.prog 44:=ZZ 44
theorem ZbY(OS:List Ob)(r:List X):ZL Tryz.prog 44 [.x .nils,.x (.int .i64 ((0:Nat):Int)),.ref OS.length 1 0 1] (OS++ [Ob.rows false 9 1 [r]]) (.ref (OS.length+1) 1 0 1) (OS++ [Ob.rows false 9 1 [r]]++ [Ob.rows false 9 1 [r]]):=by
 have hg:(OS++ [Ob.rows false 9 1 [r]]).getD OS.length .dead= .rows false 9 1 [r]:=by simp[List.getD]
 have hO:YI [OS.length] (OS++ [Ob.rows false 9 1 [r]])= [.rows false 9 1 [r]]:=by simp only[YI,YL,Qv,hg];rfl
 have ha:Zn (YO [OS.length]) [D.x .nils,.x (.int .i64 ((0:Nat):Int)),.ref OS.length 1 0 1]= [.x .nils,.x (.int .i64 0),.ref 0 1 0 1]:=by simp[Zn,D.ren,YO]
 have h:=ZL.atR (P:=Tryz.prog) (f:=44) (ρ:= [OS.length]) (args:= [.x .nils,.x (.int .i64 ((0:Nat):Int)),.ref OS.length 1 0 1]) (OS:=OS++ [Ob.rows false 9 1 [r]]) (r:= .ref 1 1 0 1) (os':= [.rows false 9 1 [r],.rows false 9 1 [r]]) (by simp[Kj,Yb,D.inP,Zh,Kn,hg,Ob.inP]) (by rw[hO,ha];exact ZVr r) (by simp);have e1:(D.ref 1 1 0 1).ren (Ja [OS.length] (OS++ [Ob.rows false 9 1 [r]]).length 2)= .ref (OS.length+1) 1 0 1:=by simp[D.ren,Ja]
 have e2:Jl [OS.length] (OS++ [Ob.rows false 9 1 [r]]) [.rows false 9 1 [r],.rows false 9 1 [r]]=OS++ [Ob.rows false 9 1 [r]]++ [Ob.rows false 9 1 [r]]:=by
  simp only[Jl,YL,Qv,Ob.ren,Ji,JJ,ξN,ZDj,ZCo,st0]
 rw[←e1,←e2];exact h
theorem ZZ2(OS:List Ob)(a:Nat)(rs:List (List X))(r:List X)(k:Nat)(h:OS[a]? =some (.rows false 9 1 rs))(hk:k≤rs.length)(hn:rs.length≤1000000):ZL Tryz.prog 44 [.ref a rs.length 0 rs.length,.x (.int .i64 k),.ref OS.length 1 0 1] (OS++ [Ob.rows false 9 1 [r]]) (.ref a (rs.length+1) 0 (rs.length+1)) ((OS++ [Ob.rows false 9 1 [r]]).set a (.rows false 9 1 (YB rs k [r]))):=by
 have hal:=(ZR h).1;have hg:(OS++ [Ob.rows false 9 1 [r]]).getD OS.length .dead= .rows false 9 1 [r]:=by simp[List.getD]
 have hg2:(OS++ [Ob.rows false 9 1 [r]]).getD a .dead= .rows false 9 1 rs:=by rw[ZGe,YR hal,h];rfl
 have hne:a≠OS.length:=by omega
 have hne2:OS.length≠a:=by omega
 have hO:YI [a,OS.length] (OS++ [Ob.rows false 9 1 [r]])= [.rows false 9 1 rs,.rows false 9 1 [r]]:=by simp only[YI,YL,Qv,hg,hg2];rfl
 have ha:Zn (YO [a,OS.length]) [D.ref a rs.length 0 rs.length,.x (.int .i64 k),.ref OS.length 1 0 1]= [.ref 0 rs.length 0 rs.length,.x (.int .i64 k),.ref 1 1 0 1]:=by simp[Zn,D.ren,YO,hne2]
 have hnb:Nat.beq a OS.length=false:=by
  cases hb:Nat.beq a OS.length with
  |false=>rfl
  |true=>exact absurd (ZTL hb) hne
 have hfp:Kj [a,OS.length] [.ref a rs.length 0 rs.length,.x (.int .i64 k),.ref OS.length 1 0 1] (OS++ [Ob.rows false 9 1 [r]])=true:=by
  unfold Kj;simp only[ZAJ,ZFV,hg,hg2,Ob.inP,Yb,D.inP,Zh,Kn,hnb,ZDg,QJ,ZKx,ZKh,ZFj,ZO0,ZS,Zi,Zx,JJ,ξN];omega
 have h:=ZL.atR (P:=Tryz.prog) (f:=44) (ρ:= [a,OS.length]) (args:= [.ref a rs.length 0 rs.length,.x (.int .i64 k),.ref OS.length 1 0 1]) (OS:=OS++ [Ob.rows false 9 1 [r]]) (r:= .ref 0 (rs.length+1) 0 (rs.length+1)) (os':= [.rows false 9 1 (YB rs k [r]),.rows false 9 1 [r]]) hfp (by rw[hO,ha];exact ZUU rs r k hk hn) (by simp);have e1:(D.ref 0 (rs.length+1) 0 (rs.length+1)).ren (Ja [a,OS.length] (OS++ [Ob.rows false 9 1 [r]]).length 2)= .ref a (rs.length+1) 0 (rs.length+1):=by simp[D.ren,Ja]
 have e2:Jl [a,OS.length] (OS++ [Ob.rows false 9 1 [r]]) [.rows false 9 1 (YB rs k [r]),.rows false 9 1 [r]]=(OS++ [Ob.rows false 9 1 [r]]).set a (.rows false 9 1 (YB rs k [r])):=by
  simp only[Jl,YL,Qv,Ob.ren,Ji,JJ,ξN,ZDj,ZCo,Kg];rw[ZMz _ _ hal];rw[ZDD _ _ (by simp)];simp
 rw[←e1,←e2];exact h
def ZHA:Tabs:=ZW (ZW (ZW (ZQ) 39 ZDx) 41 (ZBz ZAX)) 42 (ZBz ZKv)
theorem YG:SsOk Tryz.prog ZHA:=ZJ (ZJ (ZJ (ZE) (ZZ 39) ZLc) (ZZ 41) (ZPM ZHb)) (ZZ 42) (ZPM ZR6)
theorem ZZD:(∀a,ZHA.q 39 a=ZDx a)∧(∀a,ZHA.q 41 a=ZBz ZAX a)∧(∀a,ZHA.q 42 a=ZBz ZKv a)∧(∀f a o,ZHA.r f a o=none)∧(∀f a o,ZHA.k f a o=none):=⟨fun _=>rfl,fun _=>rfl,fun _=>rfl,fun _ _ _=>rfl,fun _ _ _=>rfl⟩
set_option maxHeartbeats 4000000 in
theorem ZdO(L:List (Tx×Zg))(M:List (Tx×Zs))(m:EM)(Bt:List TB)(Y:List Ob)(dn:Tx)(l:List ZU)(h:smL l)(hk:ZIQ M l)(hB:okB Y Bt)(hY:Y.all Ob.nof=true)(hr: ∀x∈Bt,SoL x.2.2∧x.2.2.length≤999999)(hm:m.length≤1000000):
  ZG Tryz.prog 12 [.ptr 0 0,.agg [.x (.str dn),.x (.sl (rows ZV l))]] (KJ (JK L) (JC M) (.mpo .str true (QY m):: .mpo .str false (Bt.map YX)::Y)) (ZOT (.x (.int .i64 (ZDf L M m dn l))) (ZCW (ZDf L M m dn l) m dn l) (ZAn (ZDf L M m dn l) (Bt.map YZ) dn) (JK L) (JC M)):=by
 have hul:ZY ZV (rows ZV l)=some l:=Zj YJ l;have hdm:=Zc (show l.length≤100∧(∀a∈l,a.1.length≤1000000)∧ ∀a∈l,a.2.1.length≤400 from h);have hst:=Zcf m dn (dn,YF l,());have hg:=ZPr m dn;have hg2:=ZPr m (KG dn);have hg3:=ZVb Bt (KG dn);have hln:=ZVk m;obtain⟨v,hv⟩: ∃v,ZDf L M m dn l=v:=⟨_,rfl⟩;rw[hv];unfold ZDf at hv;refine fC 12 true ?_;intro C0 E0;have uu:=Km @ZIK @ZHt @ZHd @ZHf @ZDx.eq_1 @ZDx.eq_2 @ZAX.eq_1 @ZAX.eq_2 (Km @ZKv.eq_1 @ZKv.eq_2 @sn0 @sn1 @sn2 @st0 @st1 hul (ξ4 hdm hst hln @ZZD));refine WI.seq ?_;refine WI.regB YG [0,3] ?_;refine oG ?_;refine oS ?_;refine oN ?_;refine ZA ?_;refine WI.seq ?_;refine WI.seq ?_;refine WI.regB YG [0,3,23] ?_;refine oS ?_;refine oG ?_;refine oS ?_
 iterate 6 refine oG ?_
 refine oN ?_;refine ZA ?_;refine WI.cond (b:=_) rfl rfl (fun h0=> ?_) (fun h0=> ?_)
 ·exfalso;simp at h0
 ·try simp only[zB]at h0
  refine WI.skip ?_;refine ZA ?_;refine WI.seq ?_;refine WI.regB YG [0,3,5,6] ?_;refine oS ?_;refine oG ?_;refine oC ?_;refine oS ?_
  iterate 2 refine oG ?_
  iterate 2 refine oS ?_
  refine oN ?_;refine ZA ?_;refine WI.seq ?_;refine WI.seq ?_;refine WI.regB YG [0,3,5,31] ?_;refine oS ?_;refine oG ?_;refine oN ?_;refine ZA ?_;refine WI.cond (b:=_) rfl rfl (fun h1=> ?_) (fun h1=> ?_)
  ·try simp only[zB]at h1
   have e1:ZAm dn=false:=by simpa using h1
   rw[if_pos e1]at hv;subst hv;refine WI.seq ?_;refine WI.regB YG [4] ?_;refine oS ?_;refine oN ?_;refine ZA ?_;refine WI.ret ?_;refine JP ?_
   first|refine lfR ?_|refine ZCb ?_|refine ZCB ?_|refine ZCc ?_
   exact ZF2 (by decide) m Bt _ _ Y dn l hB hY [_] rfl
  ·try simp only[zB]at h1
   have e1: ¬ZAm dn=false:=by simpa using h1
   rw[if_neg e1]at hv;refine WI.skip ?_;refine ZA ?_;refine WI.seq ?_;refine WI.seq ?_;rcases hl:ZI m dn with _|⟨dn',l',u⟩
   ·rw[hl,Qf]at hg;rw[hl,if_neg (by simp)]at hv;have uu:=Yq uu hg;refine WI.dregB YG [0,3,5,8] ?_
    iterate 3 refine Yd ?_
    refine QH ?_;refine Yd ?_
    iterate 2 refine QH ?_
    refine Yd ?_
    iterate 2 refine dFG ?_
    refine dKG ?_;refine dAG ?_;refine Yd ?_;refine dN ?_;refine ZA ?_;refine WI.seq ?_;refine WI.regB YG [0,3,5,42] ?_;refine oS ?_;refine oN ?_;refine ZA ?_;refine WI.cond (b:=_) rfl rfl (fun h2=> ?_) (fun h2=> ?_)
    ·exfalso;simp at h2
    ·try simp only[zB]at h2
     refine WI.skip ?_;refine ZA ?_;refine WI.seq ?_;refine WI.join (fun φ os=> ∃b3:Ob,φ= [(0,.ptr 0 0),(3,.ptr (Y.length+1+1+1+1+1+1) 0),(5,.x (.str (KG dn))),(10,.x (.bool (ZI m (KG dn)).isSome))]∧os=KJ (JK L) (JC M) (.mpo .str true (QY m):: .mpo .str false (Bt.map YX)::(Y++ [.box [.x (.str dn),.x (.sl (rows ZV l))]]++ [.box [.x (.str []),.x .nils]]++ [b3]))∧b3.nof=true) ?_ (fun φ os hJ=> ?_)
     ·rcases hl2:ZI m (KG dn)with _|⟨dn2,l2,u2⟩
      ·rw[hl2,Qf]at hg2;have uu:=Yq uu hg2;refine WI.regB YG [0,3,5,10] ?_
       iterate 3 refine oS ?_
       refine oG ?_;refine oS ?_;refine oG ?_;refine oS ?_
       iterate 4 refine oG ?_
       refine oS ?_;refine oN ?_;refine ZA ?_;exact⟨_,rfl,rfl,rfl⟩
      ·rw[hl2,YS]at hg2;have uu:=Yq uu hg2;refine WI.regB YG [0,3,5,10] ?_
       iterate 3 refine oS ?_
       refine oG ?_;refine oS ?_;refine oG ?_;refine oS ?_
       iterate 4 refine oG ?_
       refine oS ?_;refine oN ?_;refine ZA ?_;exact⟨_,rfl,rfl,rfl⟩
     ·obtain⟨b3,rfl,rfl,hb3⟩:=hJ;refine WI.seq ?_;refine WI.regB YG [0,3,5,57] ?_;refine oS ?_;refine oG ?_;refine oS ?_
      iterate 3 refine oG ?_
      refine oN ?_;refine ZA ?_;refine WI.cond (b:=_) rfl rfl (fun h3=> ?_) (fun h3=> ?_)
      ·try simp only[zB]at h3
       have e3:(ZI m (KG dn)).isSome=false∧KG dn≠ []:=by simpa using h3
       rw[if_pos e3]at hv;subst hv;refine WI.seq ?_;refine WI.regB YG [4] ?_;refine oS ?_;refine oN ?_;refine ZA ?_;refine WI.ret ?_;refine JP ?_
       first|refine lfR ?_|refine ZCb ?_|refine ZCB ?_|refine ZCc ?_
       rw[as3];exact ZF2 (by decide) m Bt _ _ Y dn l hB hY _ (by simp only[ZAJ,hb3,QJ];rfl)
      ·try simp only[zB]at h3
       have e3: ¬((ZI m (KG dn)).isSome=false∧KG dn≠ []):=by rintro⟨e4,e5⟩;rw[e4]at h3;simp[e5]at h3
       rw[if_neg e3]at hv;obtain⟨V,hV⟩: ∃V,V=Y++ [.box [.x (.str dn),.x (.sl (rows ZV l))]]++ [.box [.x (.str []),.x .nils]]++ [b3]:=⟨_,rfl⟩;have hVe:V[Y.length]? =some (.box [.x (.str dn),.x (.sl (rows ZV l))]):=by rw[hV];exact sn2 Y _ _ _
       have uu:=Yq uu hVe;rw[←hV];refine WI.skip ?_;refine ZA ?_;refine WI.seq ?_;refine WI.seq ?_;refine WI.cutA YG [0,3,5,58,59] 2 ?_;simp only[ξU,ZBZ,ZDj,ZCo];refine oS ?_;refine oG ?_;refine oP ?_;refine ZHX ?_;refine WR.callF ((ZZ 40)) (ZaT L M (.mpo .str true (QY m):: .mpo .str false (Bt.map YX)::V) dn l h hk) ?_;rintro _ _ ⟨rfl,Z,rfl,hZ⟩;obtain⟨W,hW⟩: ∃W,W=V++Z:=⟨_,rfl⟩;have hWe:W[Y.length]? =some (.box [.x (.str dn),.x (.sl (rows ZV l))]):=by rw[hW,YR (ZR hVe).1];exact hVe
       have hWY: ∃U,W=Y++U∧U.all Ob.nof=true:=⟨_,by rw[hW,hV,as4],by simp only[ZAJ,hZ,hb3,QJ];rfl⟩;dsimp only[List.cons_append];rw[←hW];clear hW hV;obtain⟨U,hWU,hU⟩:=hWY;have uu:=Yq uu hWe;refine WR.regB YG [0,3,5,11] ?_;refine oS ?_;refine oN ?_;refine ZA ?_;refine WI.seq ?_;refine WI.regB YG [0,3,5,11,62] ?_;refine oS ?_;refine oG ?_;refine oN ?_;refine ZA ?_;refine WI.cond (b:=_) rfl rfl (fun h4=> ?_) (fun h4=> ?_)
       ·try simp only[zB]at h4
        have e4:ZDB L M dn l≠0:=by simpa using h4
        rw[if_pos e4]at hv;subst hv;refine WI.seq ?_;refine WI.regB YG [4] ?_
        iterate 2 refine oS ?_
        refine oN ?_;refine ZA ?_;refine WI.ret ?_;refine JP ?_
        first|refine lfR ?_|refine ZCb ?_|refine ZCB ?_|refine ZCc ?_
        rw[hWU];exact ZF2 e4 m Bt _ _ Y dn l hB hY _ hU
       ·try simp only[zB]at h4
        have e4: ¬ZDB L M dn l≠0:=by simpa using h4
        rw[if_neg e4]at hv;refine WI.skip ?_;refine ZA ?_;refine WI.seq ?_;refine WI.seq ?_;refine WI.regB YG [0,3,5,69] ?_
        iterate 3 refine oS ?_
        iterate 3 refine oG ?_
        refine oN ?_;refine ZA ?_;refine WI.cond (b:=_) rfl rfl (fun h5=> ?_) (fun h5=> ?_)
        ·try simp only[zB]at h5
         have e5:1024≤m.length:=by omega
         rw[if_pos e5]at hv;subst hv;refine WI.seq ?_;refine WI.regB YG [4] ?_;refine oS ?_;refine oN ?_;refine ZA ?_;refine WI.ret ?_;refine JP ?_
         first|refine lfR ?_|refine ZCb ?_|refine ZCB ?_|refine ZCc ?_
         rw[hWU];exact ZF2 (by decide) m Bt _ _ Y dn l hB hY _ hU
        ·try simp only[zB]at h5
         have e5: ¬1024≤m.length:=by omega
         rw[if_neg e5]at hv;subst hv;refine WI.skip ?_;refine ZA ?_;refine WI.seq ?_;refine WI.dregB YG [0,3,5] ?_
         iterate 3 refine Yd ?_
         refine QH ?_;refine Yd ?_
         iterate 2 refine QH ?_
         refine dQC ?_;refine dAG ?_;refine dN ?_;refine ZA ?_;refine WI.seq ?_;rcases hb:ZI Bt (KG dn)with _|⟨i,row⟩
         ·rw[hb,Qf]at hg3;have hb2:Ye [] dn=0:=rfl;have hsd:decide (SoL []∧([]:List Tx).length≤1000000)=true:=Zc ⟨List.Pairwise.nil,by decide⟩;have huw:ZY ZB []=some []:=rfl;have uu:=ξ5 uu hg3 hb2 hsd huw;refine WI.regB YG [0,3,5,12] ?_
          iterate 3 refine oS ?_
          refine oG ?_;refine oS ?_;refine oG ?_;refine oS ?_;refine oN ?_;refine ZA ?_;refine WI.seq ?_;refine WI.regB YG [0,3,5,12,13] ?_
          iterate 2 refine oS ?_
          refine oG ?_;refine oC ?_;refine oS ?_
          iterate 2 refine oG ?_
          iterate 2 refine oS ?_
          refine oN ?_;refine ZA ?_;refine WI.seq ?_;obtain⟨OT,hOT⟩: ∃OT,OT= .box [.mref 2,.mref 3]:: .mpo .str true (JK L):: .mpo .str true (JC M):: .mpo .str true (QY (Zz m dn (dn,YF l,()))):: .mpo .str false (Bt.map YX)::W:=⟨_,rfl⟩;have hOS:Ob.box [.ptr 1 0,.mref 4,.mref 5]::OT=KJ (JK L) (JC M) (.mpo .str true (QY (Zz m dn (dn,YF l,()))):: .mpo .str false (Bt.map YX)::(Y++U)):=by rw[hOT,hWU]
          have hOe:OT[Y.length+1+1+1+1+1]? =some (.box [.x (.str dn),.x (.sl (rows ZV l))]):=by rw[hOT];exact hWe
          have hO5: ∀V:List Ob,(OT++V)[4]? =some (.mpo .str false (Bt.map YX)):=fun V=>by rw[hOT];rfl
          have hb4: ∀(id:Nat) (ds:List D),OT[id]? =some (.box ds)→id≠4:=fun id ds h e=>by subst e;rw[hOT]at h;cases h
          have hlt: ∀(id:Nat) (ds:List D),OT[id]? =some (.box ds)→id<OT.length:=fun id ds h=>(ZR h).1
          have hbx: ∀V:List Ob,JO OT (OT++V)=true:=fun V=>ZAf _ _ (fun id ds h=>by rw[YR (hlt id ds h)];exact h) (by simp)
          have hbx0:JO OT OT=true:=ZAf _ _ (fun id ds h=>h) (Zl _);have hbx5: ∀(V:List Ob) (q:List Pr),JO OT ((OT++V).set 4 (.mpo .str false q))=true:=fun V q=>ZAf _ _ (fun id ds h=>by rw[ZEe (hb4 id ds h).symm,YR (hlt id ds h)];exact h) (by simp)
          have hin:=ZbY (.box [.ptr 1 0,.mref 4,.mref 5]::OT) [.str dn];simp only[QC,JJ,Yk,Qw]at hin;rw[←hOT];have hap: ∀V W:List Ob,OT++V++W=OT++(V++W):=fun V W=>Yk _ _ _
          have uu:=ξ7 uu hOe hO5 hbx hbx0 hap hbx5;refine WI.dregY (ZCQ ZE ZLj hin) [] [] ?_
          iterate 3 refine xFS ?_
          refine xRG ?_
          iterate 4 refine xFS ?_
          iterate 2 refine xAG ?_
          refine xAC ?_;refine xAG ?_;refine xN ?_;refine ZA ?_;refine WI.seq ?_;refine WI.regB YG [4] ?_;refine oS ?_;refine oN ?_;refine ZA ?_;refine WI.ret ?_
          first|refine lfR ?_|refine ZCb ?_|refine ZCB ?_|refine ZCc ?_
          have hf:=ZUx m Bt (JK L) (JC M) Y U dn l hB hY hU hb _ hOS (.rows false 9 1 [[.str dn]]) rfl;rw[Yk]at hf;exact hf
         ·rw[hb,YS]at hg3;obtain⟨hYi,_⟩:=hB.2.2 _ (ZAH hb);obtain⟨hso,hrl⟩:=hr _ (ZAH hb);simp only at hYi hso hrl;have hWi:W[i]? =some (.rows false 9 1 (rows ZB row)):=by rw[hWU,YR (ZR hYi).1];exact hYi
          have hsd:decide (SoL row∧row.length≤1000000)=true:=Zc ⟨hso,by omega⟩;have huw:ZY ZB (rows ZB row)=some row:=Zj ZO row;have hrn:=Zo ZB row;have htl:(rows ZB row).take row.length=rows ZB row:=by rw[←hrn,KW]
          have uu:=ξ7 uu hg3 hWi hsd huw hrn htl;refine WI.regB YG [0,3,5,12] ?_
          iterate 3 refine oS ?_
          refine oG ?_;refine oS ?_;refine oG ?_;refine oS ?_;refine oN ?_;refine ZA ?_;refine WI.seq ?_;refine WI.regB YG [0,3,5,12,13] ?_
          iterate 2 refine oS ?_
          refine oG ?_;refine oC ?_;refine oS ?_
          iterate 2 refine oG ?_
          iterate 2 refine oS ?_
          refine oN ?_;refine ZA ?_;refine WI.seq ?_;obtain⟨OT,hOT⟩: ∃OT,OT= .box [.mref 2,.mref 3]:: .mpo .str true (JK L):: .mpo .str true (JC M):: .mpo .str true (QY (Zz m dn (dn,YF l,()))):: .mpo .str false (Bt.map YX)::W:=⟨_,rfl⟩;have hOS:Ob.box [.ptr 1 0,.mref 4,.mref 5]::OT=KJ (JK L) (JC M) (.mpo .str true (QY (Zz m dn (dn,YF l,()))):: .mpo .str false (Bt.map YX)::(Y++U)):=by rw[hOT,hWU]
          have hOe:OT[Y.length+1+1+1+1+1]? =some (.box [.x (.str dn),.x (.sl (rows ZV l))]):=by rw[hOT];exact hWe
          have hO5: ∀V:List Ob,(OT++V)[4]? =some (.mpo .str false (Bt.map YX)):=fun V=>by rw[hOT];rfl
          have hb4: ∀(id:Nat) (ds:List D),OT[id]? =some (.box ds)→id≠4:=fun id ds h e=>by subst e;rw[hOT]at h;cases h
          have hlt: ∀(id:Nat) (ds:List D),OT[id]? =some (.box ds)→id<OT.length:=fun id ds h=>(ZR h).1
          have hbx: ∀V:List Ob,JO OT (OT++V)=true:=fun V=>ZAf _ _ (fun id ds h=>by rw[YR (hlt id ds h)];exact h) (by simp)
          have hbx0:JO OT OT=true:=ZAf _ _ (fun id ds h=>h) (Zl _);have hOi:OT[i+5]? =some (.rows false 9 1 (rows ZB row)):=by rw[hOT];exact hWi
          have hOi2: ∀V:List Ob,(OT++V)[i+5]? =some (.rows false 9 1 (rows ZB row)):=fun V=>by rw[YR (ZR hOi).1];exact hOi
          have uu:=Yq uu hOi2;have hbi: ∀(id:Nat) (ds:List D),OT[id]? =some (.box ds)→i+5≠id:=fun id ds h e=>by subst e;rw[hOi]at h;cases h
          have hbx5:(∀(V:List Ob) (R:Ob),JO OT ((OT++V).set (i+5) R)=true)∧(∀(V:List Ob) (R:Ob) (q:List Pr),JO OT (((OT++V).set (i+5) R).set 4 (.mpo .str false q))=true)∧ ∀(V:List Ob) (R:Ob),((OT++V).set (i+5) R)[4]? =some (.mpo .str false (Bt.map YX)):=
           ⟨fun V R=>ZAf _ _ (fun id ds h=>by rw[ZEe (hbi id ds h),YR (hlt id ds h)];exact h) (by simp),fun V R q=>ZAf _ _ (fun id ds h=>by rw[ZEe (hb4 id ds h).symm,ZEe (hbi id ds h),YR (hlt id ds h)];exact h) (by simp),fun V R=>by rw[ZEe (by omega)];exact hO5 V⟩
          have hin:=ZZ2 (.box [.ptr 1 0,.mref 4,.mref 5]::OT) (i+6) (rows ZB row) [.str dn] (Ye row dn) hOi (by rw[hrn];exact ZFq row dn) (by rw[hrn];omega);rw[hrn]at hin;simp only[QC,JJ,ZBn]at hin;rw[←hOT];have hap: ∀V W:List Ob,OT++V++W=OT++(V++W):=fun V W=>Yk _ _ _
          have uu:=ξ7 uu hOe hO5 hbx hbx0 hap hbx5;refine WI.dregY (ZCQ ZE ZLj hin) [] [] ?_
          iterate 3 refine xFS ?_
          refine xRG ?_
          iterate 4 refine xFS ?_
          iterate 2 refine xAG ?_
          refine xAC ?_;refine xAG ?_;refine xN ?_;refine ZA ?_;refine WI.seq ?_;refine WI.regB YG [4] ?_;refine oS ?_;refine oN ?_;refine ZA ?_;refine WI.ret ?_
          first|refine lfR ?_|refine ZCb ?_|refine ZCB ?_|refine ZCc ?_
          have hf:=ZVl m Bt (JK L) (JC M) Y U dn l hB hY hU i row hb hrl _ hOS (.rows false 9 1 [[.str dn]]) rfl;rw[ZVh];exact hf
   ·rw[hl,YS]at hg;rw[hl,if_pos (by simp)]at hv;subst hv;have uu:=Yq uu hg;refine WI.dregB YG [0,3,5,8] ?_
    iterate 3 refine Yd ?_
    refine QH ?_;refine Yd ?_
    iterate 2 refine QH ?_
    refine Yd ?_
    iterate 2 refine dFG ?_
    refine dKG ?_;refine dAG ?_;refine Yd ?_;refine dN ?_;refine ZA ?_;refine WI.seq ?_;refine WI.regB YG [0,3,5,42] ?_;refine oS ?_;refine oN ?_;refine ZA ?_;refine WI.cond (b:=_) rfl rfl (fun h2=> ?_) (fun h2=> ?_)
    ·try simp only[zB]at h2
     refine WI.seq ?_;refine WI.regB YG [4] ?_;refine oS ?_;refine oN ?_;refine ZA ?_;refine WI.ret ?_;refine JP ?_
     first|refine lfR ?_|refine ZCb ?_|refine ZCB ?_|refine ZCc ?_
     rw[as2];exact ZF2 (by decide) m Bt _ _ Y dn l hB hY [_,_] rfl
    ·exfalso;simp at h2
end Go.Proofs.YtiogclkbccdefaaGreatDoor
end
section
namespace Go.Proofs.YtiogclkbccdefaaGreatDoor
open Go.RowKit Go.Bo Go.Ab
theorem ZPF{κ β:Type}[DecidableEq κ]: ∀(A:List (κ×β)) (c:κ),(YY A c).Sublist A
 | [],c=>by simp[YY]
 |p::A,c=>by
  by_cases h:c=p.1
  ·have e:YY (p::A) c=A:=by simp[YY,h]
   rw[e];exact List.sublist_cons_self _ _
  ·have e:YY (p::A) c=p::YY A c:=by simp[YY,h]
   rw[e];exact(ZPF A c).cons_cons p
abbrev BM:=List (Tx×List Tx)
def enB(B:BM):List (X×List (List X)):=B.map fun b=>(.str b.1,rows ZB b.2)
abbrev ZDJ(L:List (Tx×Zg))(M:List (Tx×Zs))(m:EM)(B:BM):Ob:= .fam 9 [JK L,JC M,QY m] (enB B)
def ZGT(B:BM):Nat→Tx→Bool
 |0,n=>decide (KR B n= [])
 |k+1,n=>(KR B n).all fun s=>ZGT B k s
theorem ZNz(B:BM): ∀(k:Nat) (n:Tx),ZGT B k n=true↔ZEd B k n
 |0,n=>by simp[ZGT,ZEd]
 |k+1,n=>by simp only[ZGT,ZEd,YQ];exact forall₂_congr fun s _=>ZNz B k s
def okT(m:EM)(B:BM):Prop:=(B.map (·.1)).Nodup∧(∀b∈B,SoL b.2∧b.2.length≤999999)∧(∀p∈m,smL p.2.2.1)∧m.length≤1000000
instance (m:EM) (B:BM):Decidable (okT m B):=inferInstanceAs (Decidable (_∧_))
theorem ZOo{α β:Type}(f:α→β): ∀ {l l':List β},l.Perm l'→ ∀B:List α,l'=B.map f→ ∃B':List α,B'.Perm B∧l=B'.map f:=by
 intro l l' h
 induction h with
 |nil=>intro B hB;exact⟨[],by rw[ZY4.1 hB.symm],rfl⟩
 |cons x h ih=>
  intro B hB;cases B with
  |nil=>cases hB
  |cons b B=>
   rw[YL,ZGf]at hB;obtain⟨B',h1,rfl⟩:=ih B hB.2;exact⟨b::B',h1.cons b,by rw[YL,hB.1]⟩
 |swap x y l=>
  intro B hB
  match B,hB with
  |a::b::B,hB=>
   simp only[YL,ZGf]at hB;exact⟨b::a::B,List.Perm.swap a b B,by simp only[YL];rw[hB.1,hB.2.1,hB.2.2]⟩
 |trans h1 h2 ih1 ih2=>
  intro B hB;obtain⟨B2,k1,k2⟩:=ih2 B hB;obtain⟨B1,k3,k4⟩:=ih1 B2 k2;exact⟨B1,k3.trans k1,k4⟩
theorem ZH1{L:List (Tx×Zg)}{M:List (Tx×Zs)}{m:EM}{B:BM}(hk:okT m B){os:List Ob}(h:ZDs 9 [JK L,JC M,QY m] (enB B) os):
  ∃(Bt:List TB) (Y:List Ob),(Bt.map YZ).Perm B∧okB Y Bt∧Y.all Ob.nof=true∧os=KJ (JK L) (JC M) (.mpo .str true (QY m):: .mpo .str false (Bt.map YX)::Y):=by
 obtain⟨P1,P2,P3,C,Y,hP,rfl,hp,hn,hY,hr⟩:=h;simp only[ZGf,and_true]at hP;obtain⟨rfl,rfl,rfl⟩:=hP;obtain⟨B',hB',hC⟩:=ZOo (fun b:Tx×List Tx=>(X.str b.1,rows ZB b.2)) hp B rfl;have hlen:C.length=B'.length:=by have:=congrArg List.length hC;simpa using this
 have hat: ∀(j:Nat) (c:X×Nat×List (List X)) (b:Tx×List Tx),C[j]? =some c→B'[j]? =some b→c.1= .str b.1∧c.2.2=rows ZB b.2:=fun j c b h1 h2=>by
  have h3:=congrArg (fun l=>l[j]?) hC;simp only[Zw,h1,h2,YS,Ze,Za]at h3;exact h3
 let Bt:List TB:=List.zipWith (fun c b=>(b.1,c.2.1,b.2)) C B'
 have hB1:Bt.map YZ=B':=by
  apply ZAq;intro j;simp only[Bt,Zw,List.getElem?_zipWith];by_cases hj:j<B'.length
  ·rw[Zu hj,Zu (by omega)];rfl
  ·rw[ξZ (l:=B') (by omega),ξZ (l:=C) (by omega)];rfl
 have hB2:Bt.map (·.2.1)=C.map (·.2.1):=by
  apply ZAq;intro j;simp only[Bt,Zw,List.getElem?_zipWith];by_cases hj:j<B'.length
  ·rw[Zu hj,Zu (l:=C) (by omega)];rfl
  ·rw[ξZ (l:=B') (by omega),ξZ (l:=C) (by omega)];rfl
 have hB3:Bt.map YX=C.map brP:=by
  apply ZAq;intro j;simp only[Bt,Zw,List.getElem?_zipWith];by_cases hj:j<B'.length
  ·have h1:=Zu (l:=C) (i:=j) (by omega);have h2:=Zu hj;obtain⟨e1,e2⟩:=hat j _ _ h1 h2;rw[h1,h2];simp only[YS,YX,brP,e1,e2,Zo]
  ·rw[ξZ (l:=B') (by omega),ξZ (l:=C) (by omega)];rfl
 have hB4:Bt.map (·.1)=B'.map (·.1):=by rw[←hB1,Jq];rfl
 refine⟨Bt,Y,by rw[hB1];exact hB',⟨?_,by rw[hB2];exact hn,fun x hx=> ?_⟩,hY,by rw[hB3]⟩
 ·rw[hB4];exact(hB'.map _).nodup_iff.2 hk.1
 ·obtain⟨j,hj⟩:=ZFM.1 hx;simp only[Bt,List.getElem?_zipWith]at hj;split at hj
  ·rename_i c b h1 h2;cases hj;obtain⟨e1,e2⟩:=hat j c b h1 h2;have:=(hk.2.1 b (hB'.mem_iff.1 (YT h2))).2;exact⟨by rw[←e2];exact hr c (YT h1),by simp only;omega⟩
  ·cases hj
theorem ZGj{L:List (Tx×Zg)}{M:List (Tx×Zs)}{m:EM}{B:BM}{Bt:List TB}{Y:List Ob}(hp:(Bt.map YZ).Perm B)(hB:okB Y Bt)(hY:Y.all Ob.nof=true):ZDs 9 [JK L,JC M,QY m] (enB B) (KJ (JK L) (JC M) (.mpo .str true (QY m):: .mpo .str false (Bt.map YX)::Y)):=by
 refine⟨_,_,_,Bt.map fun x=>(.str x.1,x.2.1,rows ZB x.2.2),Y,rfl,?_,?_,?_,hY,fun b hb=> ?_⟩
 ·rw[Jq,show(brP∘fun x:TB=>(X.str x.1,x.2.1,rows ZB x.2.2))=YX from funext fun x=>by simp only[Function.comp,brP,YX,Zo]]
 ·have h:=hp.map fun b:Tx×List Tx=>(X.str b.1,rows ZB b.2)
  rw[Jq]at h;rw[Jq];exact h
 ·rw[Jq];exact hB.2.1
 ·obtain⟨x,hx,rfl⟩:=YW.1 hb;exact(hB.2.2 x hx).1
theorem ZG.imp{P:Program}{f:FuncId}{args:List D}{os:List Ob}{Q Q':D→List Ob→Prop}(h:ZG P f args os Q)(hq: ∀r os',Q r os'→Q' r os'):ZG P f args os Q':=fun c E vs R hvl=>
 (h c E vs R hvl).mono fun e w' ⟨v,E',r,os',h1,h2,h3,h4,h5,h6⟩=>⟨v,E',r,os',h1,h2,h3,h4,h5,hq r os' h6⟩
theorem ZEq{A B:BM}(h:A.Perm B)(hn:(A.map (·.1)).Nodup)(n:Tx):KR A n=KR B n:=by unfold KR;rw[ZS4 h hn]
theorem ZLd{A B:BM}(h:A.Perm B)(hn:(A.map (·.1)).Nodup): ∀(k:Nat) (n:Tx),JU A k n=JU B k n
 |0,_=>rfl
 |k+1,n=>by simp only[JU,ZEq h hn n];congr 1;funext s;rw[ZLd h hn k s]
theorem ZOG{A B:BM}(h:A.Perm B)(hn:(A.map (·.1)).Nodup): ∀(k:Nat) (n:Tx),ZEd A k n↔ZEd B k n
 |0,n=>by simp only[ZEd,ZEq h hn n]
 |k+1,n=>by simp only[ZEd,ZEq h hn n];exact forall₂_congr fun s _=>ZOG h hn k s
theorem ZTg{κ β:Type}[DecidableEq κ]{A B:List (κ×β)}(h:A.Perm B)(hn:(A.map (·.1)).Nodup)(c:κ)(w:β):(Zz A c w).Perm (Zz B c w):=
 (ZIq A c w).trans (((ZV1 h hn c).cons _).trans (ZIq B c w).symm)
theorem mdel_nodup{κ β:Type}[DecidableEq κ]{A:List (κ×β)}(hn:(A.map (·.1)).Nodup)(c:κ):((YY A c).map (·.1)).Nodup:=((ZPF A c).map _).nodup hn
theorem ZTf{A B:BM}(h:A.Perm B)(hn:(A.map (·.1)).Nodup)(c:Int)(n:Tx):(ZAn c A n).Perm (ZAn c B n):=by
 unfold ZAn;rw[ZEq h hn];split
 ·exact ZTg h hn _ _
 ·exact h
section
variable (L:List (Tx×Zg)) (M:List (Tx×Zs)) (m:EM) (B:BM)
theorem ZNQ{L:List (Tx×Zg)}{M:List (Tx×Zs)}{m':EM}{B:BM}{Bt:List TB}{Y:List Ob}(hp:(Bt.map YZ).Perm B)(hB:okB Y Bt)(hY:Y.all Ob.nof=true)(Z:List Ob)(hZ:Z.all Ob.nof=true):ZDs 9 [JK L,JC M,QY m'] (enB B) (KJ (JK L) (JC M) (.mpo .str true (QY m'):: .mpo .str false (Bt.map YX)::(Y++Z))):=
 ZGj hp (ZHs hB Z) (by rw[ZM7,hY,hZ];rfl)
theorem Zch(hk:okT m B):ZL Tryz.prog 14 [.iref 0 0] [ZDJ L M m B] (.x (.int .i64 m.length)) [ZDJ L M m B]:=
 ZKq (args:= []) rfl rfl fun os h=>by
  obtain⟨Bt,Y,hp,hB,hY,rfl⟩:=ZH1 hk h;exact ZG.imp (ZdT (JK L) (JC M) m _ Y) fun r os' ⟨hr,Z,ho,hZ⟩=>⟨hr,by rw[ho];exact ZNQ hp hB hY Z hZ⟩
theorem ZY7(k:Nat)(hk:okT m B)(hd:ZEd B k [])(hl:(JU B k []).length≤999999):ZL Tryz.prog 15 [.iref 0 0] [ZDJ L M m B] (.x (.sl (rows ZB (JU B k [])))) [ZDJ L M m B]:=
 ZKq (args:= []) rfl rfl fun os h=>by
  obtain⟨Bt,Y,hp,hB,hY,rfl⟩:=ZH1 hk h;have hn:((Bt.map YZ).map (·.1)).Nodup:=(hp.map _).nodup_iff.2 hk.1;rw[←ZLd hp hn]at hl⊢;exact ZG.imp (ZZ5 (JK L) (JC M) m Bt k Y hB ((ZOG hp hn _ _).2 hd) hl) fun r os' ⟨hr,Z,ho,hZ⟩=>⟨hr,by rw[ho];exact ZNQ hp hB hY Z hZ⟩
theorem Zb9(dn:Tx)(l:List ZU)(hk:okT m B)(h:smL l)(hc:ZIQ M l):ZL Tryz.prog 12 [.iref 0 0,.agg [.x (.str dn),.x (.sl (rows ZV l))]] [ZDJ L M m B] (.x (.int .i64 (ZDf L M m dn l))) [ZDJ L M (ZCW (ZDf L M m dn l) m dn l) (ZAn (ZDf L M m dn l) B dn)]:=
 ZKq (args:= [.agg [.x (.str dn),.x (.sl (rows ZV l))]]) rfl rfl fun os hf=>by
  obtain⟨Bt,Y,hp,hB,hY,rfl⟩:=ZH1 hk hf;have hn:((Bt.map YZ).map (·.1)).Nodup:=(hp.map _).nodup_iff.2 hk.1;exact ZG.imp (ZdO L M m Bt Y dn l h hc hB hY (fun x hx=>hk.2.1 (YZ x) (hp.mem_iff.1 (YW.2 ⟨x,hx,rfl⟩))) hk.2.2.2) fun r os' ⟨hr,Bt',Y',hp',hB',hY',ho⟩=>⟨hr,by rw[ho];exact ZGj (hp'.trans (ZTf hp hn _ _)) hB' hY'⟩
end
def unB:List (X×List (List X))→Option BM
 | []=>some []
 |(.str s,R)::l=>(ZY ZB R).bind fun r=>(unB l).map fun q=>(s,r)::q
 |_=>none
theorem ZUA: ∀B:BM,unB (enB B)=some B
 | []=>rfl
 |b::B=>by
  have h:=ZUA B;unfold enB at h⊢;simp only[YL,unB,Zj ZO,h,Qu,YS]
theorem ZRE: ∀ {l:List (X×List (List X))} {B:BM},unB l=some B→l=enB B
 | [],B,h=>by cases h;rfl
 |p::l,B,h=>by
  obtain⟨x,R⟩:=p;cases x with
  |str s=>
   simp only[unB]at h;obtain⟨r,h1,h⟩:=Zv h;obtain⟨q,h2,rfl⟩:=ZT h;rw[ZRE h2,←Zb ZO h1];rfl
  |_=>cases h
def ZbZ(P:List Pr):Option EM:=Qq ZB ZCJ P
theorem ZbL(m:EM):ZbZ (QY m)=some m:=ZQT ZO ZA4 m
def unT(o:Ob):Option (List (Tx×Zg)×List (Tx×Zs)×EM×BM):=match o with
 | .fam 9 [P1,P2,P3] b=>(Qq ZB Yi P1).bind fun L=>(Qq ZB Kp P2).bind fun M=>(ZbZ P3).bind fun m=>(unB b).map fun B=>(L,M,m,B)
 |_=>none
theorem ZcI(L:List (Tx×Zg))(M:List (Tx×Zs))(m:EM)(B:BM):unT (ZDJ L M m B)=some (L,M,m,B):=by
 simp only[unT,ZDJ,ZD8,ZEE,ZbL,ZUA,Qu,YS]
theorem ZM5{o:Ob}{L:List (Tx×Zg)}{M:List (Tx×Zs)}{m:EM}{B:BM}(h:unT o=some (L,M,m,B)):o=ZDJ L M m B:=by
 unfold unT at h;split at h
 ·rename_i P1 P2 P3 b;obtain⟨L',h1,h⟩:=Zv h;obtain⟨M',h2,h⟩:=Zv h;obtain⟨m',h3,h⟩:=Zv h;obtain⟨B',h4,h⟩:=ZT h;cases h;rw[JD ZO JX h1,JD ZO KI h2,JD ZO ZA4 h3,ZRE h4];rfl
 ·cases h
def ZIN:List D→List Ob→Option (Bool×D)
 | [.iref 0 0],[o]=>(unT o).map fun q=>(decide (okT q.2.2.1 q.2.2.2),.x (.int .i64 q.2.2.1.length))
 |_,_=>none
def okW(k:Nat)(m:EM)(B:BM)(n:Tx):Prop:=okT m B∧ZGT B k n=true∧(JU B k n).length≤999999
instance (k:Nat) (m:EM) (B:BM) (n:Tx):Decidable (okW k m B n):=inferInstanceAs (Decidable (_∧_))
def ZDk:List D→List Ob→Option (Bool×D)
 | [.iref 0 0],[o]=>(unT o).map fun q=>(decide (okW 40 q.2.2.1 q.2.2.2 []),.x (.sl (rows ZB (JU q.2.2.2 40 []))))
 |_,_=>none
theorem ZWf: ∀args os r,ZIN args os=some (true,r)→r.clean=true∧ ∃X,ZL Tryz.prog 14 args os r (os++X):=by
 intro args os r h;unfold ZIN at h;split at h
 ·obtain⟨⟨L,M,m,B⟩,h1,h2⟩:=ZT h;simp only[Za,Zi]at h2;obtain⟨h3,rfl⟩:=h2;rw[ZM5 h1];exact⟨rfl,[],Zch L M m B h3⟩
 ·cases h
theorem ZTN: ∀args os r,ZDk args os=some (true,r)→r.clean=true∧ ∃X,ZL Tryz.prog 15 args os r (os++X):=by
 intro args os r h;unfold ZDk at h;split at h
 ·obtain⟨⟨L,M,m,B⟩,h1,h2⟩:=ZT h;simp only[Za,Zi]at h2;obtain⟨h3,rfl⟩:=h2;rw[ZM5 h1];exact⟨rfl,[],ZY7 L M m B 40 h3.1 ((ZNz B 40 []).1 h3.2.1) h3.2.2⟩
 ·cases h
def ZKH:List D→List Ob→Option (Bool×D×List Ob)
 | [.iref 0 0,.agg [.x (.str dn),.x (.sl R)]],[o]=>(unT o).bind fun q=>(ZY ZV R).map fun l=>(decide (okT q.2.2.1 q.2.2.2∧smL l∧ZIQ q.2.1 l),.x (.int .i64 (ZDf q.1 q.2.1 q.2.2.1 dn l)),[ZDJ q.1 q.2.1 (ZCW (ZDf q.1 q.2.1 q.2.2.1 dn l) q.2.2.1 dn l) (ZAn (ZDf q.1 q.2.1 q.2.2.1 dn l) q.2.2.2 dn)])
 |_,_=>none
def okD(m:EM)(B:BM)(n:Tx):Prop:=okT m B∧((ZI m n).isSome=true→KR B n= []→n∈KR B (KG n)∧KG n≠n)
instance (m:EM) (B:BM) (n:Tx):Decidable (okD m B n):=inferInstanceAs (Decidable (_∧_))
theorem ZXR: ∀args os r os',ZKH args os=some (true,r,os')→ZL Tryz.prog 12 args os r os':=by
 intro args os r os' h;unfold ZKH at h;split at h
 ·obtain⟨⟨L,M,m,B⟩,h1,h⟩:=Zv h;obtain⟨l,h2,h⟩:=ZT h;simp only[Za,Zi]at h;obtain⟨h3,rfl,rfl⟩:=h;rw[ZM5 h1,←Zb YJ h2];exact Zb9 L M m B _ l h3.1 h3.2.1 h3.2.2
 ·cases h
theorem ZbT{l:List Tx}(hs:SoL l)(s:Tx)(hn: ∀x∈l,YN x≠YN s):SoL (ZCq l s):=by
 have h1: ∀x∈l.take (Ye l s),Op.bytesLess (YN x) (YN s)=true:=fun x hx=>by
  obtain⟨j,hj,rfl⟩:=ZNN.1 hx;rw[List.getElem_take];exact ZLt l s j (by rw[JA]at hj;omega)
 have h2: ∀x∈l.drop (Ye l s),Op.bytesLess (YN s) (YN x)=true:=fun x hx=>by
  obtain⟨j,hj,rfl⟩:=ZNN.1 hx;rw[KU]at hj;rw[List.getElem_drop];have h3:=mt (ZRq hs s (Ye l s+j) (by omega)).1 (by omega);rcases bl_tot _ _ (hn _ (Yl (h:=show Ye l s+j<l.length by omega)))with h4|h4
  ·exact absurd h4 h3
  ·exact h4
 have h0:SoL (l.take (Ye l s)++l.drop (Ye l s)):=by rw[ZCn];exact hs
 obtain⟨k1,k2,k3⟩:=ZTR.1 h0;refine ZTR.2 ⟨k1,ZTY.2 ⟨h2,k2⟩,fun a ha b hb=> ?_⟩;rcases QM.1 hb with rfl|hb
 ·exact h1 a ha
 ·exact k3 a ha b hb
theorem ZXU{l:List Tx}{s x:Tx}:x∈ZCq l s↔x=s∨x∈l:=by
 have h:x∈l↔x∈l.take (Ye l s)∨x∈l.drop (Ye l s):=by rw[←KT,ZCn]
 unfold ZCq;rw[KT,QM,h];constructor
 ·rintro(h|h|h)
  ·exact .inr (.inl h)
  ·exact .inl h
  ·exact .inr (.inr h)
 ·rintro(h|h|h)
  ·exact .inr (.inl h)
  ·exact .inl h
  ·exact .inr (.inr h)
theorem ZW2(l:List Tx)(s:Tx):(ZCq l s).length=l.length+1:=by
 have:=ZFq l s;simp only[ZCq,Zx,JA,JJ,KU];omega
def nm3(i:Nat):Tx:= [UInt8.ofNat (97+i/400),UInt8.ofNat (97+i/20 % 20),UInt8.ofNat (97+i % 20)]
def Qs(i:Nat):Tx:= [100,99,61]++nm3 i
def ok3(i:Nat):Bool:=ZAm (Qs i)&&(decide (KG (Qs i)= [])&&(decide (YN (Qs i)=Qs i)&&(decide (ZDB (tyL plT) (clL plC) (Qs i) (ZB5 (nm3 i))=0)&&(decide (smL (ZB5 (nm3 i)))&&(decide (ZIQ (clL plC) (ZB5 (nm3 i)))&&decide (smL (YF (ZB5 (nm3 i)))))))))
theorem ZaF:(List.range 1100).all ok3=true:=by decide+kernel
theorem ZIp{i:Nat}(h:i<1100):ZAm (Qs i)=true∧KG (Qs i)= []∧YN (Qs i)=Qs i∧ZDB (tyL plT) (clL plC) (Qs i) (ZB5 (nm3 i))=0∧smL (ZB5 (nm3 i))∧ZIQ (clL plC) (ZB5 (nm3 i))∧smL (YF (ZB5 (nm3 i))):=by
 have:=YQ.1 ZaF i (ZEk.2 h);simpa only[ok3,ZS,Zi]using this
theorem ZJd{a b:Nat}(ha:a<256)(hb:b<256)(h:UInt8.ofNat a=UInt8.ofNat b):a=b:=by
 have:=congrArg UInt8.toNat h;simpa[UInt8.toNat_ofNat',ZPZ ha,ZPZ hb]using this
theorem ZMv{i j:Nat}(hi:i<1100)(hj:j<1100)(h:Qs i=Qs j):i=j:=by
 have h:=List.append_cancel_left h;simp only[nm3,ZGf,and_true]at h;obtain⟨h1,h2,h3⟩:=h;have h1:=ZJd (by omega) (by omega) h1;have h2:=ZJd (by omega) (by omega) h2;have h3:=ZJd (by omega) (by omega) h3;omega
theorem ZUV(i:Nat):Qs i≠ []:=by unfold Qs;intro h;cases h
def ZEv(i:Nat)(m:EM)(B:BM):Prop:= ∃row:List Tx,(B= []∧row= []∨B= [([],row)])∧m.length=min i 1024∧row.length=min i 1024∧SoL row∧(∀s∈row,∃j,j<i∧s=Qs j)∧ ∀p∈m,(∃j,j<i∧p.1=Qs j)∧smL p.2.2.1
theorem ZcO:ZEv 0 [] []:=⟨[],.inl ⟨rfl,rfl⟩,rfl,rfl,.nil,by simp,by simp⟩
theorem ZQU{row:List Tx}{B:BM}(h:B= []∧row= []∨B= [([],row)]):KR B []=row∧ ∀s,s≠ []→KR B s= []:=by
 rcases h with⟨rfl,rfl⟩|rfl
 ·exact⟨rfl,fun _ _=>rfl⟩
 ·exact⟨rfl,fun s hs=>by simp[KR,ZI,hs]⟩
theorem ZRr{i:Nat}{m:EM}{B:BM}(h:ZEv i m B):okT m B:=by
 obtain⟨row,hB,hm,hr,hs,h1,h2⟩:=h;refine⟨?_,?_,fun p hp=>(h2 p hp).2,by omega⟩
 ·rcases hB with⟨rfl,rfl⟩|rfl<;>simp
 ·rcases hB with⟨rfl,rfl⟩|rfl
  ·simp
  ·intro b hb;obtain rfl:=ZBP.1 hb;exact⟨hs,by simp only;omega⟩
theorem ZIn{i:Nat}{m:EM}{B:BM}(h:ZEv i m B):(JU B 40 []).length=min i 1024∧ZGT B 40 []=true:=by
 obtain⟨row,hB,hm,hr,hs,h1,h2⟩:=h;obtain⟨hr0,hr1⟩:=ZQU hB;constructor
 ·have hw:JU B 40 []=row:=by
   show(KR B []).flatMap _=row;rw[hr0];have: ∀s∈row,s::JU B 39 s= [s]:=fun s hs=>by
    obtain⟨j,_,rfl⟩:=h1 s hs;show Qs j::(KR B (Qs j)).flatMap _=_;rw[hr1 _ (ZUV j)];rfl
   clear hr hs h2 hB hr0 hr1
   induction row with
   |nil=>rfl
   |cons s row ih=>
    rw[ZMt,this s (ZDn ..),ih (fun t ht=>h1 t (ZGo _ ht)) (fun t ht=>this t (ZGo _ ht))];rfl
  rw[hw,hr]
 ·show((KR B []).all fun s=>ZGT B 39 s)=true;rw[hr0,YQ];intro s hs;obtain⟨j,_,rfl⟩:=h1 s hs;show((KR B (Qs j)).all fun s=>ZGT B 38 s)=true;rw[hr1 _ (ZUV j)];rfl
theorem ZYg{i:Nat}{m:EM}{B:BM}(h:ZEv i m B):okW 40 m B []:=⟨ZRr h,(ZIn h).2,by rw[(ZIn h).1];omega⟩
theorem ZYh{i:Nat}{m:EM}{B:BM}(h:ZEv i m B)(hi:i<1100):ZDf (tyL plT) (clL plC) m (Qs i) (ZB5 (nm3 i))=if i<1024 then 0 else 80:=by
 obtain⟨row,hB,hm,hr,hs,h1,h2⟩:=h;obtain⟨k1,k2,k3,k4,_⟩:=ZIp hi;have hl:ZI m (Qs i)=none:=by
  cases e:ZI m (Qs i)with
  |none=>rfl
  |some v=>
   obtain⟨⟨j,hj,hd⟩,_⟩:=h2 _ (ZAH e);have:=ZMv hi (by omega) hd;omega
 unfold ZDf;rw[k1,hl,k2,k4,hm];simp only[Bool.true_eq_false,if_false,ZXS,Yt,ne_eq,not_true_eq_false,and_false];by_cases h3:i<1024
 ·rw[if_pos h3,if_neg (by omega)]
 ·rw[if_neg h3,if_pos (by omega)]
theorem ZV5{i:Nat}{m:EM}{B:BM}(h:ZEv i m B)(hi:i<1100):
  ZEv (i+1) (ZCW (if i<1024 then 0 else 80) m (Qs i) (ZB5 (nm3 i))) (ZAn (if i<1024 then 0 else 80) B (Qs i)):=by
 obtain⟨row,hB,hm,hr,hs,h1,h2⟩:=h;obtain⟨hr0,hr1⟩:=ZQU hB;obtain⟨k1,k2,k3,k4,_,_,k7⟩:=ZIp hi;by_cases h3:i<1024
 ·rw[if_pos h3];have hl:ZI m (Qs i)=none:=by
   cases e:ZI m (Qs i)with
   |none=>rfl
   |some v=>
    obtain⟨⟨j,hj,hd⟩,_⟩:=h2 _ (ZAH e);have:=ZMv hi (by omega) hd;omega
  have hB':ZAn 0 B (Qs i)= [([],ZCq row (Qs i))]:=by
   unfold ZAn;rw[if_pos rfl,k2,hr0];rcases hB with⟨rfl,rfl⟩|rfl<;>rfl
  refine⟨ZCq row (Qs i),.inr hB',?_,by rw[ZW2];omega,ZbT hs _ (fun x hx=> ?_),fun s hs=> ?_,fun p hp=> ?_⟩
  ·unfold ZCW;rw[if_pos rfl,ZBq hl,Zx,ZS0];omega
  ·obtain⟨j,hj,rfl⟩:=h1 x hx;rw[k3,(ZIp (show j<1100 by omega)).2.2.1];intro e;have:=ZMv (by omega) hi e;omega
  ·rcases ZXU.1 hs with rfl|hs
   ·exact⟨i,by omega,rfl⟩
   ·obtain⟨j,hj,rfl⟩:=h1 s hs;exact⟨j,by omega,rfl⟩
  ·unfold ZCW at hp;rw[if_pos rfl,ZBq hl]at hp;rcases KT.1 hp with hp|hp
   ·obtain⟨⟨j,hj,e⟩,h4⟩:=h2 p hp;exact⟨⟨j,by omega,e⟩,h4⟩
   ·obtain rfl:=ZBP.1 hp;exact⟨⟨i,by omega,rfl⟩,k7⟩
 ·rw[if_neg h3];refine⟨row,hB,by show m.length=_;omega,by omega,hs,fun s hs=> ?_,fun p hp=> ?_⟩
  ·obtain⟨j,hj,rfl⟩:=h1 s hs;exact⟨j,by omega,rfl⟩
  ·obtain⟨⟨j,hj,e⟩,h4⟩:=h2 p hp;exact⟨⟨j,by omega,e⟩,h4⟩
def ZII(os:List Ob)(t:Nat):List Nat:=match os[t]? with
 |some (.box [.ptr s _,.mref a,.mref b])=>match os[s]? with
  |some (.box [.mref x,.mref c])=>t::s::x::c::a::b::(match os[b]? with
   |some (.mpo _ _ l)=>l.filterMap fun q=>match q.2 with
    | [.ref i _ _ _]=>some i
    |_=>none
   |_=> [])
  |_=> []
 |_=> []
def ZKg(Y:List Ob)(l:List Pr):List TB:=l.filterMap fun q=>match q with
 |([.str s],[.ref i _ _ _])=>match Y[i-6]? with
  |some (.rows _ _ _ R)=>(ZY ZB R).map fun l=>(s,i-6,l)
  |_=>none
 |_=>none
def ZYp(Y:List Ob)(B:List TB):Bool:=decide ((B.map (·.1)).Nodup∧(B.map (·.2.1)).Nodup)&&B.all fun x=>decide (x.2.2.length≤1000000)&&match Y[x.2.1]? with
 |some o=>Ob.beq o (.rows false 9 1 (rows ZB x.2.2))
 |none=>false
theorem Zab{Y:List Ob}{B:List TB}(h:ZYp Y B=true):okB Y B:=by
 simp only[ZYp,ZS,Zi]at h;refine⟨h.1.1,h.1.2,fun x hx=> ?_⟩;have h2:=YQ.1 h.2 x hx;simp only[ZS,Zi]at h2;refine⟨?_,h2.1⟩;have h3:=h2.2;split at h3
 ·rename_i o ho;rw[ho,Ob.beq_eq h3]
 ·cases h3
theorem ZY2{α:Type}{a b:α}{l:List α}(h:l.Perm [a,b]):l= [a,b]∨l= [b,a]:=by
 have hl:=h.length_eq
 match l,hl with
 | [x,y],_=>
  have hx:x=a∨x=b:=by have:=h.mem_iff.1 (ZDn (a:=x) (l:= [y]));simpa using this
  rcases hx with rfl|rfl
  ·have:=(List.perm_cons _).1 h;left;rw[List.singleton_perm_singleton.1 this]
  ·have:=(List.perm_cons x).1 (h.trans (List.Perm.swap x a []));right;rw[List.singleton_perm_singleton.1 this]
def awR(G:FuncId→Option IFn)(res:List IRes)(rest:IC)(l2:List IOp)(dst:Option Nat)(φ2:List (Nat×D))(os2:List Ob)(ρ:List Nat)(P1 P2 m:List Pr)(B:List TB)(Y:List Ob)(l:List (Tx×List Tx)):Bool:=
 match Jr ZGv (putO φ2 dst ((D.ptr (Y.length+8) 0).ren (Ja ρ os2.length (cpO P1 P2 m Y (.mpo .str false (B.map YX)) l).length))) (Jl ρ os2 (cpO P1 P2 m Y (.mpo .str false (B.map YX)) l)) l2 with
 |some (true,φ4,os4)=>match ev ZGv [] G 300 rest φ4 os4 with
  |some (.ret,φ5,os5)=>match Jt true (fun _ _=>none) φ5 os5 res with
   |some (true,[.x (.bool true)],_)=>true
   |_=>false
  |_=>false
 |_=>false
def awC(G:FuncId→Option IFn)(res:List IRes)(rest:IC)(f:IO)(xs:List IO)(l2:List IOp)(dst:Option Nat)(φ2:List (Nat×D))(os2:List Ob):Bool:=
 match(ZC φ2 f).val,xs.map fun y=>(ZC φ2 y).val with
 | .fn g [],[.ptr t 0]=>match YI (ZII os2 t) os2 with
  | .box _:: .box _:: .mpo _ _ P1:: .mpo _ _ P2:: .mpo _ _ m:: .mpo _ _ b::Y=>
   decide (g=19)&&((ZC φ2 f).cond&&((xs.all fun y=>(ZC φ2 y).cond)&&(Kj (ZII os2 t) [.ptr t 0] os2&&(Nat.beq (YO (ZII os2 t) t) 0&&(decide ((ZII os2 t).length≤Y.length+6)&&
    (ZEA (YI (ZII os2 t) os2) (KJ P1 P2 (.mpo .str true m:: .mpo .str false ((ZKg Y b).map YX)::Y))&&(ZYp Y (ZKg Y b)&&match(ZKg Y b).map YZ with
     | [x,y]=>awR G res rest l2 dst φ2 os2 (ZII os2 t) P1 P2 m (ZKg Y b) Y [x,y]&&awR G res rest l2 dst φ2 os2 (ZII os2 t) P1 P2 m (ZKg Y b) Y [y,x]
     |_=>false)))))))
  |_=>false
 |_,_=>false
def awT(G:FuncId→Option IFn)(k:Nat):Option IFn→Bool
 |some p=>match evSeq ZGv [] G 300 k p.body [] []with
  |some (φ1,os1)=>match ZYF k p.body with
   | .seq (.reg (o::⟨dst,.call f xs,none⟩::l2)) rest=>match Jr ZGv φ1 os1 [o]with
    |some (true,φ2,os2)=>awC G p.res rest f xs l2 dst φ2 os2
    |_=>false
   |_=>false
  |_=>false
 |none=>false
theorem ZVD{c:Ctx}{E0:Env}{n:Nat}{res:List IRes}{rest:IC}{l2:List IOp}{dst:Option Nat}{φ2:List (Nat×D)}{os2:List Ob}{ρ:List Nat}{P1 P2 m:List Pr}{B:List TB}{Y:List Ob}{l:List (Tx×List Tx)}(h:awR (GP Tryz.prog) res rest l2 dst φ2 os2 ρ P1 P2 m B Y l=true):
  ∃φ' os',Jr ZGv (putO φ2 dst ((D.ptr (Y.length+8) 0).ren (Ja ρ os2.length (cpO P1 P2 m Y (.mpo .str false (B.map YX)) l).length))) (Jl ρ os2 (cpO P1 P2 m Y (.mpo .str false (B.map YX)) l)) l2=some (true,φ',os')∧
   WI Tryz.prog c E0 [] n rest (fun x φ' os'=>(x= .normal∨x= .ret)∧ ∃ds os2,Jt true (fun _ _=>none) φ' os' res=some (true,ds,os2)∧Qj ds= .x (.bool true)) φ' os':=by
 unfold awR at h;split at h
 ·rename_i φ4 os4 h1;split at h
  ·rename_i φ5 os5 h2;split at h
   ·rename_i q h3;exact⟨φ4,os4,h1,WI.evE ZI7 [] (ZLn _) 300 h2 ⟨.inr rfl,_,_,h3,rfl⟩⟩
   ·cases h
  ·cases h
 ·cases h
theorem ZVR:ZD Tryz.prog 16 [] (.x (.bool true)):=by
 have h:awT (GP Tryz.prog) 6 (GP Tryz.prog 16)=true:=by kernel_rfl
 refine ZG.pure (FG.calls (fz:=true) ?_) rfl;generalize hG:GP Tryz.prog 16=q at h⊢;unfold awT at h;split at h
 ·rename_i p;refine FG.mk (fun C0 E0=> ?_) (Je _);split at h
  ·rename_i φ1 os1 hev;split at h
   ·rename_i o dst f xs l2 rest hsq;split at h
    ·rename_i φ2 os2 hr;refine WI.evSeq ZI7 [] (ZLn _) 300 6 hev ?_;rw[hsq];refine WI.seq ?_;unfold awC at h;split at h
     ·rename_i g t hv hx;split at h
      ·rename_i P1 _ _ P2 _ _ m _ _ b Y hO;simp only[ZS,Zi]at h;obtain⟨rfl,c1,c2,k1,k2,k3,k4,k5,k6⟩:=h;have hB:=Zab k5;have hcp:=Zcl P1 P2 m (ZKg Y b) Y hB;have hin:Zn (YO (ZII os2 t)) [D.ptr t 0]= [.ptr 0 0]:=by
        simp only[Zn,D.ren,ZTL k2]
       have hcp2:=ZG.lift (P:=Tryz.prog) (ρ:=ZII os2 t) (args:= [.ptr t 0]) (OS:=os2) (Post:=CpP P1 P2 m (ZKg Y b) Y) k1 (by rw[hin,ZFw k4];exact hcp) (fun r os' ⟨l,_,_,h⟩=>by
        rw[h];refine ZJK k3 ?_;simp[cpO])
       refine WI.regF ZI7 1 rfl hr (ZZ 19) hv c1 c2 (by rw[hx,Kg];exact hcp2) ?_;rintro r os3 ⟨r1,os',⟨l,hl,rfl,rfl⟩,rfl,rfl⟩;split at k6
       ·rename_i x y hxy;simp only[ZS]at k6;rw[hxy]at hl;rcases ZY2 hl with rfl|rfl
        ·exact ZVD k6.1
        ·exact ZVD k6.2
       ·cases k6
      ·cases h
     ·cases h
    ·cases h
   ·cases h
  ·cases h
 ·cases h
end Go.Proofs.YtiogclkbccdefaaGreatDoor
end
section
namespace Go.Proofs.YtiogclkbccdefaaGreatDoor
open Go.RowKit Go.Bo Go.Ab
theorem Zcj(P1 P2:List Pr):ZL Tryz.prog 10 [.ptr 0 0] [.box [.mref 1,.mref 2],.mpo .str true P1,.mpo .str true P2] (.ptr 5 0) [.box [.mref 1,.mref 2],.mpo .str true P1,.mpo .str true P2,.mpo .str true [],.mpo .str false [],.box [.ptr 0 0,.mref 3,.mref 4]]:=by
 refine ZG.mcalls (fC 10 true ?_);intro C0 E0;have uu:=trivial;have tT:=(ZE:SsOk Tryz.prog ZQ);refine nz ?_;refine rg tT [0] ?_;refine rg tT [2] ?_;refine lf ?_
 first|rfl|exact⟨rfl,rfl⟩|trivial
def ZKI:List D→List Ob→Option (Bool×D×List Ob)
 | [.ptr 0 0],[.box [.mref 1,.mref 2],.mpo .str true P1,.mpo .str true P2]=>some (true,.ptr 5 0,[.box [.mref 1,.mref 2],.mpo .str true P1,.mpo .str true P2,.mpo .str true [],.mpo .str false [],.box [.ptr 0 0,.mref 3,.mref 4]])
 |_,_=>none
theorem ZXd: ∀args os r os',ZKI args os=some (true,r,os')→ZL Tryz.prog 10 args os r os':=by
 intro args os r os' h;unfold ZKI at h;split at h
 ·cases h;exact Zcj _ _
 ·cases h
theorem ZbU:ZDs 9 [JK (tyL plT),JC (clL plC),QY []] (enB []) (KJ (JK (tyL plT)) (JC (clL plC)) (.mpo .str true (QY []):: .mpo .str false []:: [])):=ZGj (Bt:= []) (Y:= []) (ZJk _) ⟨.nil,.nil,by simp⟩ rfl
end Go.Proofs.YtiogclkbccdefaaGreatDoor
end
section
namespace Go.Proofs.YtiogclkbccdefaaGreatDoor
open Go.RowKit Go.Bo Go.Ab
def ZDw:List D→Option (Bool×D)
 | []=>some (true,.x (.bool true))
 |_=>none
theorem ZQ2: ∀args r,ZDw args=some (true,r)→ZD Tryz.prog 16 args r:=by
 intro args r h;unfold ZDw at h;split at h
 ·simp only[Ze,Za,ZS,Zi,true_and]at h;obtain rfl:=h;exact ZVR
 ·cases h
def Ku:Tabs:=ZFk (ZFk (Jc (Jc (Jc (ZW (ZW (ZQ) 16 ZDw) 13 ZDe) 11 ZFR) 10 ZKI) 12 ZKH) 14 ZIN) 15 ZDk
theorem ZWz:SsOk Tryz.prog Ku:=ZC0 (ZC0 (Ys (Ys (Ys (ZJ (ZJ (ZE) (ZZ 16) ZQ2) (ZZ 13) ZLy) (ZZ 11) ZNw) (ZZ 10) ZXd) (ZZ 12) ZXR) (ZZ 14) ZWf) (ZZ 15) ZTN
theorem ZaQ:(∀a,Ku.q 16 a=ZDw a)∧(∀a,Ku.q 13 a=ZDe a)∧(∀a,Ku.q 11 a=none)∧(∀a o,Ku.t 11 a o=Ym ZFR a o)∧(∀a,Ku.q 10 a=none)∧(∀a o,Ku.t 10 a o=Ym ZKI a o)∧(∀a,Ku.q 12 a=none)∧(∀a o,Ku.t 12 a o=Ym ZKH a o)∧(∀a,Ku.q 14 a=none)∧(∀a o,Ku.t 14 a o=(Jx ZIN a o).map fun r=>(r.1,r.2,o))∧(∀a o,Ku.r 14 a o=Jx ZIN a o)∧(∀a,Ku.q 15 a=none)∧(∀a o,Ku.t 15 a o=(Jx ZDk a o).map fun r=>(r.1,r.2,o))∧(∀a o,Ku.r 15 a o=Jx ZDk a o)∧(∀a o,Ku.r 10 a o=none)∧(∀a o,Ku.r 11 a o=none)∧(∀a o,Ku.r 12 a o=none)∧(∀a o,Ku.r 13 a o=none)∧(∀a o,Ku.r 16 a o=none)∧(∀f a o,Ku.k f a o=none):=⟨fun _=>rfl,fun _=>rfl,fun _=>rfl,fun _ _=>rfl,fun _=>rfl,fun _ _=>rfl,fun _=>rfl,fun _ _=>rfl,fun _=>rfl,fun _ _=>rfl,fun _ _=>rfl,fun _=>rfl,fun _ _=>rfl,fun _ _=>rfl,fun _ _=>rfl,fun _ _=>rfl,fun _ _=>rfl,fun _ _=>rfl,fun _ _=>rfl,fun _ _ _=>rfl⟩
theorem ZXs{i:Nat}{m:EM}{B:BM}(h:ZEv i m B):m.length=min i 1024:=by obtain⟨row,hB,hm,_⟩:=h;exact hm
theorem ZcT(n:Int)(h0:0≤n): ∃k:Nat,IntKind.i64.wrap (n.tmod 1100)=(k:Int)∧k<1100:=by
 rw[Int.tmod_eq_emod_of_nonneg h0,IntKind.wrap_i64];refine⟨(n % 1100).toNat,by omega,by omega⟩
theorem ZTc(n:Int)(m:Nat)(h:n=m)(hm:m<256):ZAZ [X.int .u8 (IntKind.u8.wrap n)]=UInt8.ofNat m:=by
 have hw:IntKind.u8.wrap n=m:=by rw[IntKind.wrap_u8];omega
 rw[hw];rfl
theorem ZaD{i:Nat}(h:i<1100):ZAZ [X.int .u8 (IntKind.u8.wrap (IntKind.i64.wrap (97+IntKind.i64.wrap ((i:Int).tdiv 400))))]=UInt8.ofNat (97+i/400):=by
 rw[Int.tdiv_eq_ediv_of_nonneg (by omega),IntKind.wrap_i64,IntKind.wrap_i64];exact ZTc _ _ (by omega) (by omega)
theorem ZaO{i:Nat}(h:i<1100):ZAZ [X.int .u8 (IntKind.u8.wrap (IntKind.i64.wrap (97+(IntKind.i64.wrap ((i:Int).tdiv 20)).tmod 20)))]=UInt8.ofNat (97+i/20 % 20):=by
 have h1:IntKind.i64.wrap ((i:Int)/20)=(i:Int)/20:=by rw[IntKind.wrap_i64];omega
 rw[Int.tdiv_eq_ediv_of_nonneg (by omega),h1,Int.tmod_eq_emod_of_nonneg (by omega),IntKind.wrap_i64];exact ZTc _ _ (by omega) (by omega)
theorem ZaU{i:Nat}(h:i<1100):ZAZ [X.int .u8 (IntKind.u8.wrap (IntKind.i64.wrap (97+(i:Int).tmod 20)))]=UInt8.ofNat (97+i % 20):=by
 rw[Int.tmod_eq_emod_of_nonneg (by omega),IntKind.wrap_i64];exact ZTc _ _ (by omega) (by omega)
set_option maxHeartbeats 4000000 in
theorem ZVW(n:Int)(hn0:0≤n):ZD Tryz.prog 3 [.x (.int .u16 n)] (.x (.bool true)):=by
 have hu1:=ZD8 (tyL plT);have hu2:=ZEE (clL plC);refine ZG.pure (fC 3 true ?_) rfl;intro C0 E0;have uu:=Km @ZBm @ZBa @ZCH @ZCP @Qd @Ql @ZFR.eq_1 @ZFR.eq_2 (Km @ZKI.eq_1 @ZKI.eq_2 @ZKH.eq_1 @ZKH.eq_2 @ZIN.eq_1 @ZIN.eq_2 @ZDk.eq_1 @ZDk.eq_2 (ξ5 @ZDe.eq_1 @ZDe.eq_2 @ZDw.eq_1 @ZDw.eq_2 @ZaQ));have tT:=ZWz;refine nz ?_;refine rg tT [0] ?_;refine rg tT [0,3] ?_;refine WI.pickA [5,0,1,2,3,4] ?_ (ho:=by simp (disch:=decide) only[zV,zO,Ob.mpb,frzL,ZAQ,ZBU,Qr,Ob.onI,mpP,Yz,YS,Qf,D.vw,vwL,D.on,D.inP,Yb,Zh,D.ren,Zn,YO,YI,Ob.mp,Ob.ren,D.nn,ZCe,Nat.reduceBEq,Nat.reduceEqDiff,Nat.reduceAdd,↓reduceIte,ZdN,Zdb,ZBm,ZBa];rfl);refine WI.famA 9 ZbU ?_;refine rg tT [0,3,11] ?_;refine cd (fun h0=> ?_) (fun h0=> ?_)
 ·refine rg tT [2] ?_;refine lf ?_
  first|rfl|exact⟨rfl,rfl⟩|trivial
 ·refine rg tT [3,4] ?_;refine rg tT [3,4,5] ?_;obtain⟨k,hk,hk2⟩:=ZcT n hn0;rw[hk];have hun:=ZcI (tyL plT) (clL plC);refine WI.loop (fun φ os=> ∃(i:Nat) (m:EM) (B:BM),φ= [(3,.iref 0 0),(4,.x (.int .i64 k)),(5,.x (.int .i64 i))]∧os= [ZDJ (tyL plT) (clL plC) m B]∧i≤k∧ZEv i m B) (ZX k 5) ?_ (fun φ os hI=> ?_)
  ·exact⟨0,[],[],rfl,rfl,by omega,ZcO⟩
  ·obtain⟨i,m,B,rfl,rfl,hi,hF⟩:=hI;have hok:=ZRr hF;have hunm:=hun m B;have uu:=ξ4 uu hunm (Zc hok) (Zc (ZYg hF));refine nz ?_;refine rg tT [3,4,5,17] ?_;refine cd (fun h1=> ?_) (fun h1=> ?_)
   ·have hi5:i<1100:=by omega
    have hb1:=ZaD hi5;have hb2:=ZaO hi5;have hb3:=ZaU hi5;have hn3: [UInt8.ofNat (97+i/400),UInt8.ofNat (97+i/20 % 20),UInt8.ofNat (97+i % 20)]=nm3 i:=rfl;have hd3:(100::99::61::nm3 i:Tx)=Qs i:=rfl;have hdu:ZY ZV (rows ZV (ZB5 (nm3 i)))=some (ZB5 (nm3 i)):=Zj YJ _;have hadd:=ZYh hF hi5;have hdec:decide (okT m B∧smL (ZB5 (nm3 i))∧ZIQ (clL plC) (ZB5 (nm3 i)))=true:=Zc ⟨hok,(ZIp hi5).2.2.2.2.1,(ZIp hi5).2.2.2.2.2.1⟩;have uu:=Km uu hb1 hb2 hb3 hn3 hd3 hdu hadd hdec;refine rg tT [3,4,5,6] ?_;refine rg tT [3,4,5,7] ?_;refine rg tT [3,4,5,54] ?_;refine ce (fun h2=> ?_) (fun h2=> ?_)
    ·clear uu;by_cases h3:i<1024<;>simp[h3]at h2<;>omega
    ·refine WI.pickA [0] ?_;refine rg tT [3,4,5] ?_;exact⟨⟨i+1,_,_,rfl,rfl,by omega,ZV5 hF (by omega)⟩,by simp[ZX,Ab.get,D.val,ZH];omega⟩
   ·obtain rfl:i=k:=by clear uu;omega
    have hml:m.length=min i 1024:=ZXs hF;have hM1:((m.length:Int)==if 1024<(i:Int)then 1024 else(i:Int))=true:=by rw[beq_iff_eq];split<;>omega
    have hM2:(rows ZB (JU B 40 [])).length=m.length:=by rw[Zo,(ZIn hF).1,hml]
    have uu:=Jz uu hM1 hM2;refine rg tT [2] ?_;refine lf ?_
    first|rfl|exact⟨rfl,rfl⟩|trivial
theorem Zdi{y:Int}(h:X.okL [X.int .u16 y]):0≤y∧y≤65535:=by
 have:=h.1;simp only[X.ok,Lit.wf,ZS,Zi]at this;exact this
theorem ZU5(y:Int)(h:X.okL ((ZAp .u16).enc y)):ZD Tryz.prog 3 [.x (.int .u16 y)] (.x (.bool true)):=ZVW y (Zdi h).1
end Go.Proofs.YtiogclkbccdefaaGreatDoor
end
